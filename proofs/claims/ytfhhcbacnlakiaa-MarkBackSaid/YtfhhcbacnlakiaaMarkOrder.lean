/-
  THE WALK OF 'MarkOrder', and the plain law of the order of keys. Conditions: none.
-/
import Derived.Test.YtfhhcbacnlakiaaMarkWorks
import Derived.Test.YtfhhcbacnlakiaaMarkArgs
namespace Go.Proofs.Ytfhhcbacnlakiaa
open Go.RowKit

theorem c3_bd (x y : Int) : -1 ≤ c3 x y ∧ c3 x y ≤ 1 := by unfold c3; split <;> (try split) <;> omega
theorem c3_neg (x y : Int) : c3 y x = - c3 x y := by
  unfold c3
  by_cases h : x < y
  · rw [if_pos h, if_neg (by omega), if_pos h]; rfl
  · by_cases h2 : y < x
    · rw [if_pos h2, if_neg h, if_pos h2]
    · rw [if_neg h2, if_neg h, if_neg h, if_neg h2]; rfl
theorem c3_lt {x y : Int} : c3 x y < 0 ↔ x < y := by
  unfold c3
  by_cases h : x < y
  · simp [h]
  · by_cases h2 : y < x
    · rw [if_neg h, if_pos h2]; omega
    · rw [if_neg h, if_neg h2]; omega
theorem c3_gt {x y : Int} : 0 < c3 x y ↔ y < x := by
  have h1 := c3_neg x y
  have h2 := @c3_lt y x
  omega
/-- What is known of a comparison by parts. -/
theorem rcmp_lt {a b c d : Int} : rcmp a b c d < 0 ↔ a < c ∨ a = c ∧ b < d := by
  unfold rcmp or2
  have h1 := @c3_zero a c
  have h2 := @c3_lt a c
  have h3 := @c3_lt b d
  split <;> omega
theorem rcmp_neg (a b c d : Int) : rcmp c d a b = - rcmp a b c d := by
  unfold rcmp or2
  have h1 := c3_neg a c
  have h2 := c3_neg b d
  split <;> split <;> omega
theorem rcmp_zero {a b c d : Int} : rcmp a b c d = 0 ↔ a = c ∧ b = d := by
  unfold rcmp or2
  have h1 := @c3_zero a c
  have h2 := @c3_zero b d
  split <;> omega
theorem rcmp_bd (a b c d : Int) : -1 ≤ rcmp a b c d ∧ rcmp a b c d ≤ 1 := by
  unfold rcmp or2
  have h1 := c3_bd a c
  have h2 := c3_bd b d
  split <;> omega
theorem kcmp_lt {s a b q t c d r : Int} : kcmp s a b q t c d r < 0 ↔ s < t ∨ s = t ∧ (rcmp a b c d < 0 ∨ (a = c ∧ b = d) ∧ q < r) := by
  unfold kcmp or3 or2
  have h1 := @c3_zero s t
  have h2 := @c3_lt s t
  have h3 := @rcmp_zero a b c d
  have h4 := @c3_lt q r
  split
  · split <;> omega
  · omega
theorem kcmp_neg (s a b q t c d r : Int) : kcmp t c d r s a b q = - kcmp s a b q t c d r := by
  unfold kcmp or3 or2
  have h1 := c3_neg s t
  have h2 := rcmp_neg a b c d
  have h3 := c3_neg q r
  split <;> split <;> (try split) <;> (try split) <;> omega
theorem kcmp_zero {s a b q t c d r : Int} : kcmp s a b q t c d r = 0 ↔ s = t ∧ a = c ∧ b = d ∧ q = r := by
  unfold kcmp or3 or2
  have h1 := @c3_zero s t
  have h2 := @rcmp_zero a b c d
  have h3 := @c3_zero q r
  split
  · split <;> omega
  · omega
theorem kcmp_bd (s a b q t c d r : Int) : -1 ≤ kcmp s a b q t c d r ∧ kcmp s a b q t c d r ≤ 1 := by
  unfold kcmp or3 or2
  have h1 := c3_bd s t
  have h2 := rcmp_bd a b c d
  have h3 := c3_bd q r
  split <;> (try split) <;> omega
theorem kcmp_le {s a b q t c d r : Int} : kcmp s a b q t c d r ≤ 0 ↔ s < t ∨ (s = t ∧ (a < c ∨ (a = c ∧ (b < d ∨ (b = d ∧ q ≤ r))))) := by
  have a1 := @kcmp_lt s a b q t c d r
  have b1 := @kcmp_zero s a b q t c d r
  have c1 := @rcmp_lt a b c d
  constructor
  · intro h
    by_cases h0 : kcmp s a b q t c d r = 0
    · have := b1.1 h0; omega
    · have := a1.1 (by omega); omega
  · intro h
    by_cases h0 : s = t ∧ a = c ∧ b = d ∧ q = r
    · have := b1.2 h0; omega
    · have := a1.2 (by omega); omega
theorem kcmp_trans {s a b q t c d r u x y z : Int} (h1 : kcmp s a b q t c d r ≤ 0) (h2 : kcmp t c d r u x y z ≤ 0) :
    kcmp s a b q u x y z ≤ 0 ∧ (kcmp s a b q u x y z = 0 → kcmp s a b q t c d r = 0 ∧ kcmp t c d r u x y z = 0) := by
  rw [kcmp_le] at h1 h2
  rw [kcmp_le, kcmp_zero, kcmp_zero, kcmp_zero]
  rcases h1 with h1 | ⟨h1, h1 | ⟨h3, h1 | ⟨h5, h1⟩⟩⟩ <;> rcases h2 with h2 | ⟨h2, h2 | ⟨h4, h2 | ⟨h6, h2⟩⟩⟩ <;> omega

set_option maxRecDepth 100000 in
set_option maxHeartbeats 2000000 in
theorem order_walk (v0 v1 v2 : Value) (w : World) (w0 : IsKey v0) (w1 : IsKey v1) (w2 : IsKey v2) :
    Calls Try.prog 4 #[v0, v1, v2] w fun e w' => e = .returned (.bool true) ∧ Below w.heap.size w w' := by
  obtain ⟨s, a, b, q, rfl, _, _, _, _⟩ := w0
  obtain ⟨t, c, d, r, rfl, _, _, _, _⟩ := w1
  obtain ⟨u, x, y, z, rfl, _, _, _, _⟩ := w2
  have ⟨K0, L0, M0, HF⟩ := blk3 w #[.int .i64 s, .int .i64 a, .int .i64 b, .int .i64 q] #[.int .i64 t, .int .i64 c, .int .i64 d, .int .i64 r] #[.int .i64 u, .int .i64 x, .int .i64 y, .int .i64 z] 25 25 25
  go_enter Try.func4, Try.ntmps4
  go_wp2_with fail
  refine (works_any _).mono ?_
  rintro e W ⟨rfl, f1⟩
  have K1 := K0.keep f1 (fun h => h)
  have L1 := L0.keep f1 (fun h => h)
  have M1 := M0.keep f1 (fun h => h)
  have G1 := HF.trans f1
  have HB := hid (Nat.le_refl w.heap.size)
  clear K0 L0 M0 HF f1
  go_wp2_with fail
  generalize w.heap.size + 1 + 1 = p2 at *
  generalize w.heap.size + 1 = p1 at *
  generalize hp : w.heap.size = p at *
  have HP := hid hp
  clear hp
  have k0 : W.cell? ⟨p, 0, none⟩ = some (.int .i64 s) := K1.cell 0 rfl
  have k1 : W.cell? ⟨p, 1, none⟩ = some (.int .i64 a) := K1.cell 1 rfl
  have k2 : W.cell? ⟨p, 2, none⟩ = some (.int .i64 b) := K1.cell 2 rfl
  have k3 : W.cell? ⟨p, 3, none⟩ = some (.int .i64 q) := K1.cell 3 rfl
  have l0 : W.cell? ⟨p1, 0, none⟩ = some (.int .i64 t) := L1.cell 0 rfl
  have l1 : W.cell? ⟨p1, 1, none⟩ = some (.int .i64 c) := L1.cell 1 rfl
  have l2 : W.cell? ⟨p1, 2, none⟩ = some (.int .i64 d) := L1.cell 2 rfl
  have l3 : W.cell? ⟨p1, 3, none⟩ = some (.int .i64 r) := L1.cell 3 rfl
  have m0 : W.cell? ⟨p2, 0, none⟩ = some (.int .i64 u) := M1.cell 0 rfl
  have m1 : W.cell? ⟨p2, 1, none⟩ = some (.int .i64 x) := M1.cell 1 rfl
  have m2 : W.cell? ⟨p2, 2, none⟩ = some (.int .i64 y) := M1.cell 2 rfl
  have m3 : W.cell? ⟨p2, 3, none⟩ = some (.int .i64 z) := M1.cell 3 rfl
  have hacc : Fr (fun _ => False) W W.drew := (Fr.refl _ W).drew
  go_region_held3 (fun w' => w'.cell? ⟨p, 0, none⟩ = some (.int .i64 s) ∧ w'.cell? ⟨p, 1, none⟩ = some (.int .i64 a) ∧ w'.cell? ⟨p, 2, none⟩ = some (.int .i64 b) ∧ w'.cell? ⟨p, 3, none⟩ = some (.int .i64 q) ∧ w'.cell? ⟨p1, 0, none⟩ = some (.int .i64 t) ∧ w'.cell? ⟨p1, 1, none⟩ = some (.int .i64 c) ∧ w'.cell? ⟨p1, 2, none⟩ = some (.int .i64 d) ∧ w'.cell? ⟨p1, 3, none⟩ = some (.int .i64 r) ∧ w'.cell? ⟨p2, 0, none⟩ = some (.int .i64 u) ∧ w'.cell? ⟨p2, 1, none⟩ = some (.int .i64 x) ∧ w'.cell? ⟨p2, 2, none⟩ = some (.int .i64 y) ∧ w'.cell? ⟨p2, 3, none⟩ = some (.int .i64 z)) (exact ⟨cell_fr hacc k0, cell_fr hacc k1, cell_fr hacc k2, cell_fr hacc k3, cell_fr hacc l0, cell_fr hacc l1, cell_fr hacc l2, cell_fr hacc l3, cell_fr hacc m0, cell_fr hacc m1, cell_fr hacc m2, cell_fr hacc m3⟩)
    (first
      | (go_at_call 15; refine (keys_any _ _ _ _ _ _ _ _ _).mono ?_; rintro e w1 ⟨rfl, hr⟩; have hacc := hacc.trans hr))
  rename_i w1
  have hx1 := kcmp_bd s a b q t c d r
  have hx2 := kcmp_neg s a b q t c d r
  have hx3 : kcmp s a b q s a b q = 0 := kcmp_zero.2 ⟨rfl, rfl, rfl, rfl⟩
  have hx4 := @kcmp_zero s a b q t c d r
  have hx5 := @kcmp_trans s a b q t c d r u x y z
  have H2 := hid hx2
  have H3 := hid hx3
  have H4 := hid hx4
  have H5 := hid hx5
  clear hx2 hx3 hx4 hx5
  obtain ⟨hx1, hx1'⟩ := hx1
  have K2 := K1.keep hacc (fun h => h)
  have L2 := L1.keep hacc (fun h => h)
  have G2 := G1.trans hacc
  clear w1 k0 k1 k2 k3 l0 l1 l2 l3 m0 m1 m2 m3 M1 K1 L1 G1
  have hke : ∀ W : World, (binOp .eql 25 (.agg #[.int .i64 s, .int .i64 a, .int .i64 b, .int .i64 q]) (.agg #[.int .i64 t, .int .i64 c, .int .i64 d, .int .i64 r])).run Try.prog W = .ok (.bool (kcmp s a b q t c d r == 0)) W := fun W => by
    rw [run_eql_key]; congr 2; rw [Bool.eq_iff_iff]; simp [kcmp_zero]
  have hre : ∀ W : World, (binOp .eql 23 (.agg #[.int .i64 a, .int .i64 b]) (.agg #[.int .i64 c, .int .i64 d])).run Try.prog W = .ok (.bool (rcmp a b c d == 0)) W := fun W => by
    rw [run_eql_ring]; congr 2; rw [Bool.eq_iff_iff]; simp [rcmp_zero]
  have HQ6 : Hid (rcmp c d a b = - rcmp a b c d) := hid (rcmp_neg a b c d)
  have hP1 := (rcmp_bd a b c d).1
  have hP2 := (rcmp_bd a b c d).2
  have HP6 : Hid (∃ P, rcmp a b c d = P) := hid ⟨_, rfl⟩
  obtain ⟨P, hP⟩ := HP6.out
  rw [hP] at hre hP1 hP2
  have HQ6 : Hid (rcmp c d a b = -P) := hid (by rw [← hP]; exact HQ6.out)
  have HP6 := hid hP
  clear hP
  generalize hX : kcmp s a b q t c d r = X at *
  generalize hY : kcmp t c d r u x y z = Y at *
  generalize hZ : kcmp s a b q u x y z = Z at *
  have HX := hid hX
  clear hX hY hZ
  have k0 := K2.cell 0 (v := .int .i64 s) rfl
  have k1 := K2.cell 1 (v := .int .i64 a) rfl
  have k2 := K2.cell 2 (v := .int .i64 b) rfl
  have k3 := K2.cell 3 (v := .int .i64 q) rfl
  have l0 := L2.cell 0 (v := .int .i64 t) rfl
  have l1 := L2.cell 1 (v := .int .i64 c) rfl
  have l2 := L2.cell 2 (v := .int .i64 d) rfl
  have l3 := L2.cell 3 (v := .int .i64 r) rfl
  go_wp2_with fail
  refine (keys_any _ _ _ _ _ _ _ _ _).mono ?_
  rintro e w3 ⟨rfl, f3⟩
  rw [H2.out]
  have K3 := K2.keep f3 (fun h => h)
  have L3 := L2.keep f3 (fun h => h)
  have G3 := G2.trans f3
  clear k0 k1 k2 k3 l0 l1 l2 l3 K2 L2 G2 hacc f3
  have k0 := K3.cell 0 (v := .int .i64 s) rfl
  have k1 := K3.cell 1 (v := .int .i64 a) rfl
  have k2 := K3.cell 2 (v := .int .i64 b) rfl
  have k3 := K3.cell 3 (v := .int .i64 q) rfl
  have l0 := L3.cell 0 (v := .int .i64 t) rfl
  have l1 := L3.cell 1 (v := .int .i64 c) rfl
  have l2 := L3.cell 2 (v := .int .i64 d) rfl
  have l3 := L3.cell 3 (v := .int .i64 r) rfl
  go_wp2_with fail
  refine (keys_any _ _ _ _ _ _ _ _ _).mono ?_
  rintro e w4 ⟨rfl, f4⟩
  rw [H3.out]
  have K4 := K3.keep f4 (fun h => h)
  have L4 := L3.keep f4 (fun h => h)
  have G4 := G3.trans f4
  clear k0 k1 k2 k3 l0 l1 l2 l3 K3 L3 G3 f4 hke
  have k0 := K4.cell 0 (v := .int .i64 s) rfl
  have k1 := K4.cell 1 (v := .int .i64 a) rfl
  have k2 := K4.cell 2 (v := .int .i64 b) rfl
  have k3 := K4.cell 3 (v := .int .i64 q) rfl
  have l0 := L4.cell 0 (v := .int .i64 t) rfl
  have l1 := L4.cell 1 (v := .int .i64 c) rfl
  have l2 := L4.cell 2 (v := .int .i64 d) rfl
  have l3 := L4.cell 3 (v := .int .i64 r) rfl
  have H6 : Hid (s = t → P ≠ 0 → X = P) := hid (fun h1 h2 => by
    rw [← HX.out, ← HP6.out]; unfold kcmp or3 or2; rw [if_pos (c3_zero.2 h1), if_neg (by rw [HP6.out]; exact h2)])
  have hc : 0 < X ∨ (X ≤ 0 ∧ 0 < Y) ∨ (X ≤ 0 ∧ Y ≤ 0 ∧ Z < 0) ∨ (X ≤ 0 ∧ Y ≤ 0 ∧ Z ≤ 0 ∧ 0 ≤ Z ∧ 0 ≤ X ∧ 0 ≤ Y) := by
    by_cases h1 : X ≤ 0
    · by_cases h2 : Y ≤ 0
      · have h5 := H5.out h1 h2
        by_cases h3 : Z = 0
        · have := h5.2 h3; omega
        · omega
      · omega
    · omega
  have hacc : Fr (fun _ => False) w4 w4.drew := (Fr.refl _ w4).drew
  rcases hc with h | ⟨h, h'⟩ | ⟨h, h', h''⟩ | ⟨h, h', h'', h3, h4, h5⟩
  all_goals
    go_wp2_with fail
    go_region_held3 (fun w' => w'.cell? ⟨p, 0, none⟩ = some (.int .i64 s) ∧ w'.cell? ⟨p, 1, none⟩ = some (.int .i64 a) ∧ w'.cell? ⟨p, 2, none⟩ = some (.int .i64 b) ∧ w'.cell? ⟨p, 3, none⟩ = some (.int .i64 q) ∧ w'.cell? ⟨p1, 0, none⟩ = some (.int .i64 t) ∧ w'.cell? ⟨p1, 1, none⟩ = some (.int .i64 c) ∧ w'.cell? ⟨p1, 2, none⟩ = some (.int .i64 d) ∧ w'.cell? ⟨p1, 3, none⟩ = some (.int .i64 r)) (exact ⟨cell_fr hacc k0, cell_fr hacc k1, cell_fr hacc k2, cell_fr hacc k3, cell_fr hacc l0, cell_fr hacc l1, cell_fr hacc l2, cell_fr hacc l3⟩)
        (first
          | (go_at_call 13; refine (rings_any _ _ _ _ _).mono ?_; rintro e w5 ⟨rfl, hr⟩; have hacc := hacc.trans hr))
    try rw [HP6.out]
    rw [HQ6.out]
    have K5 := K4.keep hacc (fun h => h)
    have L5 := L4.keep hacc (fun h => h)
    have G5 := G4.trans hacc
    clear k0 k1 k2 k3 l0 l1 l2 l3 K4 L4 G4
    have k0 := K5.cell 0 (v := .int .i64 s) rfl
    have k1 := K5.cell 1 (v := .int .i64 a) rfl
    have k2 := K5.cell 2 (v := .int .i64 b) rfl
    have k3 := K5.cell 3 (v := .int .i64 q) rfl
    have l0 := L5.cell 0 (v := .int .i64 t) rfl
    have l1 := L5.cell 1 (v := .int .i64 c) rfl
    have l2 := L5.cell 2 (v := .int .i64 d) rfl
    have l3 := L5.cell 3 (v := .int .i64 r) rfl
    go_wp2_with fail
  all_goals
    go_ret
    refine ⟨ret_bool ?_, G5.below (Nat.le_refl _) (by simp)⟩
    first | rfl | (simp; done) | (have := H6.out (by assumption) (by assumption); simp [this])
end Go.Proofs.Ytfhhcbacnlakiaa
