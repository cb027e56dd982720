/-
  THE WALK OF 'MarkBack', and the plain law of packed keys. Conditions: none.
-/
import Derived.Test.YtfhhcbacnlakiaaMarkOrder
import Derived.Test.YtfhhcbacnlakiaaRUnpack
namespace Go.Proofs.Ytfhhcbacnlakiaa
open Go.RowKit

theorem packOf_bad {s a b q p0 p1 e : Int} (h : packOf s a b q = (p0, p1, e)) (he : e ≠ 0) : p0 = 0 ∧ p1 = 0 := by
  unfold packOf at h
  split at h
  · split at h
    · simp at h; omega
    · simp at h; omega
  · simp at h; omega
theorem packOf_good {s a b q p0 p1 : Int} (h : packOf s a b q = (p0, p1, 0)) : okKey s a b q = true ∧ fits s a q = true ∧ p0 = hiOf s a ∧ p1 = loOf a b q := by
  unfold packOf at h
  split at h
  · split at h
    · rename_i h1 h2; simp at h; exact ⟨h1, h2, h.1.symm, h.2.symm⟩
    · simp at h
  · simp at h
structure Sized (s a b q : Int) : Prop where
  s0 : 0 ≤ s
  s1 : s < 1099511627776
  a0 : 0 ≤ a
  a1 : a < 1099511627776
  b0 : 0 ≤ b
  b1 : b ≤ 8
  q0 : 0 ≤ q
  q1 : q < 68719476736
theorem sized {s a b q : Int} (h1 : okKey s a b q = true) (h2 : fits s a q = true) : Sized s a b q := by
  rw [okKey_iff] at h1
  rw [fits_true] at h2
  exact ⟨by omega, by omega, by omega, by omega, by omega, by omega, by omega, by omega⟩
theorem back {s a b q p0 p1 : Int} (h : packOf s a b q = (p0, p1, 0)) : U64 p0 ∧ U64 p1 ∧ uOk p0 p1 = true ∧ uS p0 = s ∧ uA p0 p1 = a ∧ uB p1 = b ∧ uQ p1 = q := by
  obtain ⟨h1, h2, rfl, rfl⟩ := packOf_good h
  obtain ⟨s0, s1, a0, a1, b0, b1, q0, q1⟩ := sized h1 h2
  have e1 : uS (hiOf s a) = s := by unfold uS hiOf; omega
  have e2 : uA (hiOf s a) (loOf a b q) = a := by unfold uA hiOf loOf; omega
  have e3 : uB (loOf a b q) = b := by unfold uB loOf; omega
  have e4 : uQ (loOf a b q) = q := by unfold uQ loOf; omega
  refine ⟨⟨by unfold hiOf; omega, by unfold hiOf; omega⟩, ⟨by unfold loOf; omega, by unfold loOf; omega⟩, ?_, e1, e2, e3, e4⟩
  unfold uOk
  rw [e1, e2, e3, e4, h1]
  have : hiOf s a < 72057594037927936 := by unfold hiOf; omega
  simpa using this
/-- The order of packed keys. -/
theorem hi_lt {s a t c : Int} (a0 : 0 ≤ a) (a1 : a < 1099511627776) (c0 : 0 ≤ c) (c1 : c < 1099511627776) : hiOf s a < hiOf t c ↔ s < t ∨ s = t ∧ a / 16777216 < c / 16777216 := by unfold hiOf; omega
theorem lo_lt {a b q c d r : Int} (b0 : 0 ≤ b) (b1 : b ≤ 8) (q0 : 0 ≤ q) (q1 : q < 68719476736) (d0 : 0 ≤ d) (d1 : d ≤ 8) (r0 : 0 ≤ r) (r1 : r < 68719476736) :
    loOf a b q < loOf c d r ↔ a % 16777216 < c % 16777216 ∨ a % 16777216 = c % 16777216 ∧ (b < d ∨ b = d ∧ q < r) := by unfold loOf; omega
theorem pack_lt {s a b q t c d r : Int} (h : Sized s a b q) (k : Sized t c d r) : (hiOf s a < hiOf t c ∨ hiOf s a = hiOf t c ∧ loOf a b q < loOf c d r) ↔ kcmp s a b q t c d r < 0 := by
  obtain ⟨s0, s1, a0, a1, b0, b1, q0, q1⟩ := h
  obtain ⟨t0, t1, c0, c1, d0, d1, r0, r1⟩ := k
  have e1 := @hi_lt s a t c a0 a1 c0 c1
  have e2 := @hi_lt t c s a c0 c1 a0 a1
  have e3 := @lo_lt a b q c d r b0 b1 q0 q1 d0 d1 r0 r1
  rw [kcmp_lt, rcmp_lt, e3]
  have e4 : hiOf s a = hiOf t c ↔ s = t ∧ a / 16777216 = c / 16777216 := by unfold hiOf; omega
  rw [e1, e4]
  omega
theorem pack_eq {s a b q t c d r : Int} (h : Sized s a b q) (k : Sized t c d r) : (hiOf s a = hiOf t c ∧ loOf a b q = loOf c d r) ↔ kcmp s a b q t c d r = 0 := by
  obtain ⟨s0, s1, a0, a1, b0, b1, q0, q1⟩ := h
  obtain ⟨t0, t1, c0, c1, d0, d1, r0, r1⟩ := k
  rw [kcmp_zero]
  unfold hiOf loOf
  omega

set_option maxRecDepth 100000 in
set_option maxHeartbeats 4000000 in
theorem back_no (s a b q t c d r x y : Int) (w : World) (hx : U64 x) (hy : U64 y) (p0 p1 e q0 q1 f : Int) (HA : packOf s a b q = (p0, p1, e)) (HB : packOf t c d r = (q0, q1, f)) (he : (e == 0) = false) (h0 : p0 = 0) (h1 : p1 = 0) :
    Calls Try.prog 7 #[.agg #[.int .i64 s, .int .i64 a, .int .i64 b, .int .i64 q], .agg #[.int .i64 t, .int .i64 c, .int .i64 d, .int .i64 r], .agg #[.int .u64 x, .int .u64 y]] w fun e w' => e = .returned (.bool true) ∧ Below w.heap.size w w' := by
  obtain ⟨ti, hti, _, hts, _⟩ := info_parts infoU64
  have heq := fun (W : World) (x y : Int) => run_eql_arr2 (P := Try.prog) (w := W) x y x y Try.underlying38 Try.underlying37 hti hts
  have hnq := fun (W : World) => run_neq_arr2 (P := Try.prog) (w := W) p0 p1 q0 q1 Try.underlying38 Try.underlying37 hti hts
  have hnz := fun (W : World) => run_neq_arr2 (P := Try.prog) (w := W) 0 0 0 0 Try.underlying38 Try.underlying37 hti hts
  simp only [beq_self_eq_true, Bool.and_self, Bool.not_true] at heq hnz
  have hnk : ∀ W : World, (binOp .neq 25 (.agg #[.int .i64 s, .int .i64 a, .int .i64 b, .int .i64 q]) (.agg #[.int .i64 s, .int .i64 a, .int .i64 b, .int .i64 q])).run Try.prog W = .ok (.bool false) W := fun W => by
    rw [run_neq_key]; simp
  clear hti hts
  have HA := hid HA
  have HB := hid HB
  have ⟨KA, KB, KX, HF⟩ := blk3 w #[.int .i64 s, .int .i64 a, .int .i64 b, .int .i64 q] #[.int .i64 t, .int .i64 c, .int .i64 d, .int .i64 r] #[.int .u64 x, .int .u64 y] 25 25 38
  subst h0; subst h1
  go_enter Try.func7, Try.ntmps7
  go_wp2_with fail
  refine (works_any _).mono ?_
  rintro e W1 ⟨rfl, f⟩
  replace KA := KA.keep f (fun h => h)
  replace KB := KB.keep f (fun h => h)
  replace KX := KX.keep f (fun h => h)
  replace HF := HF.trans f
  clear f
  have KA_0 := KA.cell 0 (v := .int .i64 s) rfl
  have KA_1 := KA.cell 1 (v := .int .i64 a) rfl
  have KA_2 := KA.cell 2 (v := .int .i64 b) rfl
  have KA_3 := KA.cell 3 (v := .int .i64 q) rfl
  have KA_z := KA.lt
  have KA_f := KA.free
  have KB_0 := KB.cell 0 (v := .int .i64 t) rfl
  have KB_1 := KB.cell 1 (v := .int .i64 c) rfl
  have KB_2 := KB.cell 2 (v := .int .i64 d) rfl
  have KB_3 := KB.cell 3 (v := .int .i64 r) rfl
  have KB_z := KB.lt
  have KB_f := KB.free
  have KX_0 := KX.cell 0 (v := .int .u64 x) rfl
  have KX_1 := KX.cell 1 (v := .int .u64 y) rfl
  have KX_z := KX.lt
  have KX_f := KX.free
  go_wp2_with fail
  refine (pack_any _ _ _ _ _).mono ?_
  rintro e W2 ⟨rfl, f⟩
  rw [HA.out]
  replace KA := KA.keep f (fun h => h)
  replace KB := KB.keep f (fun h => h)
  replace KX := KX.keep f (fun h => h)
  replace HF := HF.trans f
  clear f
  replace KA := KA.alloc (.cells #[.int .u64 0, .int .u64 0] 38)
  replace KB := KB.alloc (.cells #[.int .u64 0, .int .u64 0] 38)
  replace KX := KX.alloc (.cells #[.int .u64 0, .int .u64 0] 38)
  have KP := Blk.new W2 #[.int .u64 0, .int .u64 0] 38
  replace HF := HF.alloc (.cells #[.int .u64 0, .int .u64 0] 38)
  replace KB_0 := KB.cell 0 (v := .int .i64 t) rfl
  replace KB_1 := KB.cell 1 (v := .int .i64 c) rfl
  replace KB_2 := KB.cell 2 (v := .int .i64 d) rfl
  replace KB_3 := KB.cell 3 (v := .int .i64 r) rfl
  replace KB_z := KB.lt
  replace KB_f := KB.free
  go_wp2_with fail
  refine (pack_any _ _ _ _ _).mono ?_
  rintro e W3 ⟨rfl, f⟩
  rw [HB.out]
  replace KA := KA.keep f (fun h => h)
  replace KB := KB.keep f (fun h => h)
  replace KX := KX.keep f (fun h => h)
  replace KP := KP.keep f (fun h => h)
  replace HF := HF.trans f
  clear f
  replace KA := KA.alloc (.cells #[.int .u64 q0, .int .u64 q1] 38)
  replace KB := KB.alloc (.cells #[.int .u64 q0, .int .u64 q1] 38)
  replace KX := KX.alloc (.cells #[.int .u64 q0, .int .u64 q1] 38)
  replace KP := KP.alloc (.cells #[.int .u64 q0, .int .u64 q1] 38)
  have KQ := Blk.new W3 #[.int .u64 q0, .int .u64 q1] 38
  replace HF := HF.alloc (.cells #[.int .u64 q0, .int .u64 q1] 38)
  replace KA_0 := KA.cell 0 (v := .int .i64 s) rfl
  replace KA_1 := KA.cell 1 (v := .int .i64 a) rfl
  replace KA_2 := KA.cell 2 (v := .int .i64 b) rfl
  replace KA_3 := KA.cell 3 (v := .int .i64 q) rfl
  replace KA_z := KA.lt
  replace KA_f := KA.free
  replace KB_0 := KB.cell 0 (v := .int .i64 t) rfl
  replace KB_1 := KB.cell 1 (v := .int .i64 c) rfl
  replace KB_2 := KB.cell 2 (v := .int .i64 d) rfl
  replace KB_3 := KB.cell 3 (v := .int .i64 r) rfl
  replace KB_z := KB.lt
  replace KB_f := KB.free
  replace KX_0 := KX.cell 0 (v := .int .u64 x) rfl
  replace KX_1 := KX.cell 1 (v := .int .u64 y) rfl
  replace KX_z := KX.lt
  replace KX_f := KX.free
  have KP_0 := KP.cell 0 (v := .int .u64 0) rfl
  have KP_1 := KP.cell 1 (v := .int .u64 0) rfl
  have KP_z := KP.lt
  have KP_f := KP.free
  have KQ_0 := KQ.cell 0 (v := .int .u64 q0) rfl
  have KQ_1 := KQ.cell 1 (v := .int .u64 q1) rfl
  have KQ_z := KQ.lt
  have KQ_f := KQ.free
  cases hu : uOk x y with
  | false =>
    have HU : Hid (unpV x y = .tuple #[.agg #[.int .i64 0, .int .i64 0, .int .i64 0, .int .i64 0], .int .i64 2]) := hid (by unfold unpV; rw [hu]; rfl)
    clear hu
    go_wp2_with fail
    refine (unpack_any _ _ _ hx hy).mono ?_
    rintro e W8 ⟨rfl, f⟩
    rw [HU.out]
    replace KA := KA.keep f (fun h => h)
    replace KB := KB.keep f (fun h => h)
    replace KX := KX.keep f (fun h => h)
    replace KP := KP.keep f (fun h => h)
    replace KQ := KQ.keep f (fun h => h)
    replace HF := HF.trans f
    clear f
    go_wp2_with fail
    go_ret
    exact ⟨rfl, (HF.alloc _).below (Nat.le_refl _) (by simp)⟩
  | true =>
    have HU : Hid (unpV x y = .tuple #[.agg #[.int .i64 (uS x), .int .i64 (uA x y), .int .i64 (uB y), .int .i64 (uQ y)], .int .i64 0]) := hid (by unfold unpV; rw [hu]; rfl)
    have HV := hid (unp_yes hx hy hu)
    have HC : Hid (erOf (okKey (uS x) (uA x y) (uB y) (uQ y)) = 0) := hid (by simp only [uOk, Bool.and_eq_true] at hu; rw [hu.2]; rfl)
    clear hu
    go_wp2_with fail
    refine (unpack_any _ _ _ hx hy).mono ?_
    rintro e W8 ⟨rfl, f⟩
    rw [HU.out]
    replace KA := KA.keep f (fun h => h)
    replace KB := KB.keep f (fun h => h)
    replace KX := KX.keep f (fun h => h)
    replace KP := KP.keep f (fun h => h)
    replace KQ := KQ.keep f (fun h => h)
    replace HF := HF.trans f
    clear f
    clear KA
    clear KA_z
    clear KA_f
    clear KA_0
    clear KA_1
    clear KA_2
    clear KA_3
    clear KB
    clear KB_z
    clear KB_f
    clear KB_0
    clear KB_1
    clear KB_2
    clear KB_3
    clear KP
    clear KP_z
    clear KP_f
    clear KP_0
    clear KP_1
    clear KQ
    clear KQ_z
    clear KQ_f
    clear KQ_0
    clear KQ_1
    replace KX := KX.alloc (.cells #[.int .i64 (uS x), .int .i64 (uA x y), .int .i64 (uB y), .int .i64 (uQ y)] 25)
    have KR := Blk.new W8 #[.int .i64 (uS x), .int .i64 (uA x y), .int .i64 (uB y), .int .i64 (uQ y)] 25
    replace HF := HF.alloc (.cells #[.int .i64 (uS x), .int .i64 (uA x y), .int .i64 (uB y), .int .i64 (uQ y)] 25)
    replace KX_0 := KX.cell 0 (v := .int .u64 x) rfl
    replace KX_1 := KX.cell 1 (v := .int .u64 y) rfl
    replace KX_z := KX.lt
    replace KX_f := KX.free
    have KR_0 := KR.cell 0 (v := .int .i64 (uS x)) rfl
    have KR_1 := KR.cell 1 (v := .int .i64 (uA x y)) rfl
    have KR_2 := KR.cell 2 (v := .int .i64 (uB y)) rfl
    have KR_3 := KR.cell 3 (v := .int .i64 (uQ y)) rfl
    have KR_z := KR.lt
    have KR_f := KR.free
    go_wp2_with fail
    refine (pack_any _ _ _ _ _).mono ?_
    rintro e W9 ⟨rfl, f⟩
    rw [HV.out]
    replace KX := KX.keep f (fun h => h)
    replace KR := KR.keep f (fun h => h)
    replace HF := HF.trans f
    clear f
    replace KX := KX.alloc (.cells #[.int .u64 x, .int .u64 y] 38)
    replace KR := KR.alloc (.cells #[.int .u64 x, .int .u64 y] 38)
    have KY := Blk.new W9 #[.int .u64 x, .int .u64 y] 38
    replace HF := HF.alloc (.cells #[.int .u64 x, .int .u64 y] 38)
    replace KX_0 := KX.cell 0 (v := .int .u64 x) rfl
    replace KX_1 := KX.cell 1 (v := .int .u64 y) rfl
    replace KX_z := KX.lt
    replace KX_f := KX.free
    replace KR_0 := KR.cell 0 (v := .int .i64 (uS x)) rfl
    replace KR_1 := KR.cell 1 (v := .int .i64 (uA x y)) rfl
    replace KR_2 := KR.cell 2 (v := .int .i64 (uB y)) rfl
    replace KR_3 := KR.cell 3 (v := .int .i64 (uQ y)) rfl
    replace KR_z := KR.lt
    replace KR_f := KR.free
    have KY_0 := KY.cell 0 (v := .int .u64 x) rfl
    have KY_1 := KY.cell 1 (v := .int .u64 y) rfl
    have KY_z := KY.lt
    have KY_f := KY.free
    go_wp2_with fail
    refine (check_any _ _ _ _ _).mono ?_
    rintro e W10 ⟨rfl, f⟩
    rw [HC.out]
    replace KX := KX.keep f (fun h => h)
    replace KR := KR.keep f (fun h => h)
    replace KY := KY.keep f (fun h => h)
    replace HF := HF.trans f
    clear f
    go_wp2_with fail
    go_ret
    exact ⟨rfl, HF.below (Nat.le_refl _) (by simp)⟩

set_option maxRecDepth 100000 in
set_option maxHeartbeats 4000000 in
theorem back_half (s a b q t c d r x y : Int) (w : World) (hx : U64 x) (hy : U64 y) (p0 p1 e q0 q1 f : Int) (HA : packOf s a b q = (p0, p1, e)) (HB : packOf t c d r = (q0, q1, f)) (h0 : e = 0) (hf : (f == 0) = false) :
    Calls Try.prog 7 #[.agg #[.int .i64 s, .int .i64 a, .int .i64 b, .int .i64 q], .agg #[.int .i64 t, .int .i64 c, .int .i64 d, .int .i64 r], .agg #[.int .u64 x, .int .u64 y]] w fun e w' => e = .returned (.bool true) ∧ Below w.heap.size w w' := by
  obtain ⟨ti, hti, _, hts, _⟩ := info_parts infoU64
  have heq := fun (W : World) (x y : Int) => run_eql_arr2 (P := Try.prog) (w := W) x y x y Try.underlying38 Try.underlying37 hti hts
  have hnq := fun (W : World) => run_neq_arr2 (P := Try.prog) (w := W) p0 p1 q0 q1 Try.underlying38 Try.underlying37 hti hts
  have hnz := fun (W : World) => run_neq_arr2 (P := Try.prog) (w := W) 0 0 0 0 Try.underlying38 Try.underlying37 hti hts
  simp only [beq_self_eq_true, Bool.and_self, Bool.not_true] at heq hnz
  have hnk : ∀ W : World, (binOp .neq 25 (.agg #[.int .i64 s, .int .i64 a, .int .i64 b, .int .i64 q]) (.agg #[.int .i64 s, .int .i64 a, .int .i64 b, .int .i64 q])).run Try.prog W = .ok (.bool false) W := fun W => by
    rw [run_neq_key]; simp
  clear hti hts
  have HA := hid HA
  have HB := hid HB
  have ⟨KA, KB, KX, HF⟩ := blk3 w #[.int .i64 s, .int .i64 a, .int .i64 b, .int .i64 q] #[.int .i64 t, .int .i64 c, .int .i64 d, .int .i64 r] #[.int .u64 x, .int .u64 y] 25 25 38
  subst h0
  go_enter Try.func7, Try.ntmps7
  go_wp2_with fail
  refine (works_any _).mono ?_
  rintro e W1 ⟨rfl, f⟩
  replace KA := KA.keep f (fun h => h)
  replace KB := KB.keep f (fun h => h)
  replace KX := KX.keep f (fun h => h)
  replace HF := HF.trans f
  clear f
  have KA_0 := KA.cell 0 (v := .int .i64 s) rfl
  have KA_1 := KA.cell 1 (v := .int .i64 a) rfl
  have KA_2 := KA.cell 2 (v := .int .i64 b) rfl
  have KA_3 := KA.cell 3 (v := .int .i64 q) rfl
  have KA_z := KA.lt
  have KA_f := KA.free
  have KB_0 := KB.cell 0 (v := .int .i64 t) rfl
  have KB_1 := KB.cell 1 (v := .int .i64 c) rfl
  have KB_2 := KB.cell 2 (v := .int .i64 d) rfl
  have KB_3 := KB.cell 3 (v := .int .i64 r) rfl
  have KB_z := KB.lt
  have KB_f := KB.free
  have KX_0 := KX.cell 0 (v := .int .u64 x) rfl
  have KX_1 := KX.cell 1 (v := .int .u64 y) rfl
  have KX_z := KX.lt
  have KX_f := KX.free
  go_wp2_with fail
  refine (pack_any _ _ _ _ _).mono ?_
  rintro e W2 ⟨rfl, f⟩
  rw [HA.out]
  replace KA := KA.keep f (fun h => h)
  replace KB := KB.keep f (fun h => h)
  replace KX := KX.keep f (fun h => h)
  replace HF := HF.trans f
  clear f
  replace KA := KA.alloc (.cells #[.int .u64 p0, .int .u64 p1] 38)
  replace KB := KB.alloc (.cells #[.int .u64 p0, .int .u64 p1] 38)
  replace KX := KX.alloc (.cells #[.int .u64 p0, .int .u64 p1] 38)
  have KP := Blk.new W2 #[.int .u64 p0, .int .u64 p1] 38
  replace HF := HF.alloc (.cells #[.int .u64 p0, .int .u64 p1] 38)
  replace KB_0 := KB.cell 0 (v := .int .i64 t) rfl
  replace KB_1 := KB.cell 1 (v := .int .i64 c) rfl
  replace KB_2 := KB.cell 2 (v := .int .i64 d) rfl
  replace KB_3 := KB.cell 3 (v := .int .i64 r) rfl
  replace KB_z := KB.lt
  replace KB_f := KB.free
  go_wp2_with fail
  refine (pack_any _ _ _ _ _).mono ?_
  rintro e W3 ⟨rfl, f⟩
  rw [HB.out]
  replace KA := KA.keep f (fun h => h)
  replace KB := KB.keep f (fun h => h)
  replace KX := KX.keep f (fun h => h)
  replace KP := KP.keep f (fun h => h)
  replace HF := HF.trans f
  clear f
  replace KA := KA.alloc (.cells #[.int .u64 q0, .int .u64 q1] 38)
  replace KB := KB.alloc (.cells #[.int .u64 q0, .int .u64 q1] 38)
  replace KX := KX.alloc (.cells #[.int .u64 q0, .int .u64 q1] 38)
  replace KP := KP.alloc (.cells #[.int .u64 q0, .int .u64 q1] 38)
  have KQ := Blk.new W3 #[.int .u64 q0, .int .u64 q1] 38
  replace HF := HF.alloc (.cells #[.int .u64 q0, .int .u64 q1] 38)
  replace KA_0 := KA.cell 0 (v := .int .i64 s) rfl
  replace KA_1 := KA.cell 1 (v := .int .i64 a) rfl
  replace KA_2 := KA.cell 2 (v := .int .i64 b) rfl
  replace KA_3 := KA.cell 3 (v := .int .i64 q) rfl
  replace KA_z := KA.lt
  replace KA_f := KA.free
  replace KB_0 := KB.cell 0 (v := .int .i64 t) rfl
  replace KB_1 := KB.cell 1 (v := .int .i64 c) rfl
  replace KB_2 := KB.cell 2 (v := .int .i64 d) rfl
  replace KB_3 := KB.cell 3 (v := .int .i64 r) rfl
  replace KB_z := KB.lt
  replace KB_f := KB.free
  replace KX_0 := KX.cell 0 (v := .int .u64 x) rfl
  replace KX_1 := KX.cell 1 (v := .int .u64 y) rfl
  replace KX_z := KX.lt
  replace KX_f := KX.free
  have KP_0 := KP.cell 0 (v := .int .u64 p0) rfl
  have KP_1 := KP.cell 1 (v := .int .u64 p1) rfl
  have KP_z := KP.lt
  have KP_f := KP.free
  have KQ_0 := KQ.cell 0 (v := .int .u64 q0) rfl
  have KQ_1 := KQ.cell 1 (v := .int .u64 q1) rfl
  have KQ_z := KQ.lt
  have KQ_f := KQ.free
  have ⟨up0, up1, hok, es, ea, eb, eq⟩ := back HA.out
  have HU0 : Hid (unpV p0 p1 = .tuple #[.agg #[.int .i64 s, .int .i64 a, .int .i64 b, .int .i64 q], .int .i64 0]) := hid (by unfold unpV; rw [hok, es, ea, eb, eq]; rfl)
  clear hok es ea eb eq
  go_wp2_with fail
  refine (unpack_any _ _ _ up0 up1).mono ?_
  rintro e W4 ⟨rfl, f⟩
  rw [HU0.out]
  replace KA := KA.keep f (fun h => h)
  replace KB := KB.keep f (fun h => h)
  replace KX := KX.keep f (fun h => h)
  replace KP := KP.keep f (fun h => h)
  replace KQ := KQ.keep f (fun h => h)
  replace HF := HF.trans f
  clear f
  replace KA := KA.alloc (.cells #[.int .i64 s, .int .i64 a, .int .i64 b, .int .i64 q] 25)
  replace KB := KB.alloc (.cells #[.int .i64 s, .int .i64 a, .int .i64 b, .int .i64 q] 25)
  replace KX := KX.alloc (.cells #[.int .i64 s, .int .i64 a, .int .i64 b, .int .i64 q] 25)
  replace KP := KP.alloc (.cells #[.int .i64 s, .int .i64 a, .int .i64 b, .int .i64 q] 25)
  replace KQ := KQ.alloc (.cells #[.int .i64 s, .int .i64 a, .int .i64 b, .int .i64 q] 25)
  have KK := Blk.new W4 #[.int .i64 s, .int .i64 a, .int .i64 b, .int .i64 q] 25
  replace HF := HF.alloc (.cells #[.int .i64 s, .int .i64 a, .int .i64 b, .int .i64 q] 25)
  replace KA_0 := KA.cell 0 (v := .int .i64 s) rfl
  replace KA_1 := KA.cell 1 (v := .int .i64 a) rfl
  replace KA_2 := KA.cell 2 (v := .int .i64 b) rfl
  replace KA_3 := KA.cell 3 (v := .int .i64 q) rfl
  replace KA_z := KA.lt
  replace KA_f := KA.free
  replace KB_0 := KB.cell 0 (v := .int .i64 t) rfl
  replace KB_1 := KB.cell 1 (v := .int .i64 c) rfl
  replace KB_2 := KB.cell 2 (v := .int .i64 d) rfl
  replace KB_3 := KB.cell 3 (v := .int .i64 r) rfl
  replace KB_z := KB.lt
  replace KB_f := KB.free
  replace KX_0 := KX.cell 0 (v := .int .u64 x) rfl
  replace KX_1 := KX.cell 1 (v := .int .u64 y) rfl
  replace KX_z := KX.lt
  replace KX_f := KX.free
  replace KP_0 := KP.cell 0 (v := .int .u64 p0) rfl
  replace KP_1 := KP.cell 1 (v := .int .u64 p1) rfl
  replace KP_z := KP.lt
  replace KP_f := KP.free
  replace KQ_0 := KQ.cell 0 (v := .int .u64 q0) rfl
  replace KQ_1 := KQ.cell 1 (v := .int .u64 q1) rfl
  replace KQ_z := KQ.lt
  replace KQ_f := KQ.free
  have KK_0 := KK.cell 0 (v := .int .i64 s) rfl
  have KK_1 := KK.cell 1 (v := .int .i64 a) rfl
  have KK_2 := KK.cell 2 (v := .int .i64 b) rfl
  have KK_3 := KK.cell 3 (v := .int .i64 q) rfl
  have KK_z := KK.lt
  have KK_f := KK.free
  cases hu : uOk x y with
  | false =>
    have HU : Hid (unpV x y = .tuple #[.agg #[.int .i64 0, .int .i64 0, .int .i64 0, .int .i64 0], .int .i64 2]) := hid (by unfold unpV; rw [hu]; rfl)
    clear hu
    go_wp2_with fail
    refine (unpack_any _ _ _ hx hy).mono ?_
    rintro e W8 ⟨rfl, f⟩
    rw [HU.out]
    replace KA := KA.keep f (fun h => h)
    replace KB := KB.keep f (fun h => h)
    replace KX := KX.keep f (fun h => h)
    replace KP := KP.keep f (fun h => h)
    replace KQ := KQ.keep f (fun h => h)
    replace KK := KK.keep f (fun h => h)
    replace HF := HF.trans f
    clear f
    go_wp2_with fail
    go_ret
    exact ⟨rfl, (HF.alloc _).below (Nat.le_refl _) (by simp)⟩
  | true =>
    have HU : Hid (unpV x y = .tuple #[.agg #[.int .i64 (uS x), .int .i64 (uA x y), .int .i64 (uB y), .int .i64 (uQ y)], .int .i64 0]) := hid (by unfold unpV; rw [hu]; rfl)
    have HV := hid (unp_yes hx hy hu)
    have HC : Hid (erOf (okKey (uS x) (uA x y) (uB y) (uQ y)) = 0) := hid (by simp only [uOk, Bool.and_eq_true] at hu; rw [hu.2]; rfl)
    clear hu
    go_wp2_with fail
    refine (unpack_any _ _ _ hx hy).mono ?_
    rintro e W8 ⟨rfl, f⟩
    rw [HU.out]
    replace KA := KA.keep f (fun h => h)
    replace KB := KB.keep f (fun h => h)
    replace KX := KX.keep f (fun h => h)
    replace KP := KP.keep f (fun h => h)
    replace KQ := KQ.keep f (fun h => h)
    replace KK := KK.keep f (fun h => h)
    replace HF := HF.trans f
    clear f
    clear KA
    clear KA_z
    clear KA_f
    clear KA_0
    clear KA_1
    clear KA_2
    clear KA_3
    clear KB
    clear KB_z
    clear KB_f
    clear KB_0
    clear KB_1
    clear KB_2
    clear KB_3
    clear KP
    clear KP_z
    clear KP_f
    clear KP_0
    clear KP_1
    clear KQ
    clear KQ_z
    clear KQ_f
    clear KQ_0
    clear KQ_1
    clear KK
    clear KK_z
    clear KK_f
    clear KK_0
    clear KK_1
    clear KK_2
    clear KK_3
    replace KX := KX.alloc (.cells #[.int .i64 (uS x), .int .i64 (uA x y), .int .i64 (uB y), .int .i64 (uQ y)] 25)
    have KR := Blk.new W8 #[.int .i64 (uS x), .int .i64 (uA x y), .int .i64 (uB y), .int .i64 (uQ y)] 25
    replace HF := HF.alloc (.cells #[.int .i64 (uS x), .int .i64 (uA x y), .int .i64 (uB y), .int .i64 (uQ y)] 25)
    replace KX_0 := KX.cell 0 (v := .int .u64 x) rfl
    replace KX_1 := KX.cell 1 (v := .int .u64 y) rfl
    replace KX_z := KX.lt
    replace KX_f := KX.free
    have KR_0 := KR.cell 0 (v := .int .i64 (uS x)) rfl
    have KR_1 := KR.cell 1 (v := .int .i64 (uA x y)) rfl
    have KR_2 := KR.cell 2 (v := .int .i64 (uB y)) rfl
    have KR_3 := KR.cell 3 (v := .int .i64 (uQ y)) rfl
    have KR_z := KR.lt
    have KR_f := KR.free
    go_wp2_with fail
    refine (pack_any _ _ _ _ _).mono ?_
    rintro e W9 ⟨rfl, f⟩
    rw [HV.out]
    replace KX := KX.keep f (fun h => h)
    replace KR := KR.keep f (fun h => h)
    replace HF := HF.trans f
    clear f
    replace KX := KX.alloc (.cells #[.int .u64 x, .int .u64 y] 38)
    replace KR := KR.alloc (.cells #[.int .u64 x, .int .u64 y] 38)
    have KY := Blk.new W9 #[.int .u64 x, .int .u64 y] 38
    replace HF := HF.alloc (.cells #[.int .u64 x, .int .u64 y] 38)
    replace KX_0 := KX.cell 0 (v := .int .u64 x) rfl
    replace KX_1 := KX.cell 1 (v := .int .u64 y) rfl
    replace KX_z := KX.lt
    replace KX_f := KX.free
    replace KR_0 := KR.cell 0 (v := .int .i64 (uS x)) rfl
    replace KR_1 := KR.cell 1 (v := .int .i64 (uA x y)) rfl
    replace KR_2 := KR.cell 2 (v := .int .i64 (uB y)) rfl
    replace KR_3 := KR.cell 3 (v := .int .i64 (uQ y)) rfl
    replace KR_z := KR.lt
    replace KR_f := KR.free
    have KY_0 := KY.cell 0 (v := .int .u64 x) rfl
    have KY_1 := KY.cell 1 (v := .int .u64 y) rfl
    have KY_z := KY.lt
    have KY_f := KY.free
    go_wp2_with fail
    refine (check_any _ _ _ _ _).mono ?_
    rintro e W10 ⟨rfl, f⟩
    rw [HC.out]
    replace KX := KX.keep f (fun h => h)
    replace KR := KR.keep f (fun h => h)
    replace KY := KY.keep f (fun h => h)
    replace HF := HF.trans f
    clear f
    go_wp2_with fail
    go_ret
    exact ⟨rfl, HF.below (Nat.le_refl _) (by simp)⟩

set_option maxRecDepth 100000 in
set_option maxHeartbeats 4000000 in
theorem back_both (s a b q t c d r x y : Int) (w : World) (hx : U64 x) (hy : U64 y) (p0 p1 e q0 q1 f : Int) (HA : packOf s a b q = (p0, p1, e)) (HB : packOf t c d r = (q0, q1, f)) (h0 : e = 0) (h1 : f = 0) (hcs : p0 < q0 ∧ Hid (kcmp s a b q t c d r = -1) ∨ (p0 ≤ q0 ∧ q0 ≤ p0 ∧ (p0 == q0) = true ∧ p1 < q1) ∧ Hid (kcmp s a b q t c d r = -1) ∨ (p0 ≤ q0 ∧ q0 ≤ p0 ∧ (p0 == q0) = true ∧ p1 ≤ q1 ∧ q1 ≤ p1 ∧ (p1 == q1) = true) ∧ Hid (kcmp s a b q t c d r = 0) ∨ (p0 ≤ q0 ∧ q0 ≤ p0 ∧ (p0 == q0) = true ∧ q1 < p1 ∧ (p1 == q1) = false) ∧ Hid (kcmp s a b q t c d r = 1) ∨ (q0 < p0 ∧ (p0 == q0) = false) ∧ Hid (kcmp s a b q t c d r = 1)) :
    Calls Try.prog 7 #[.agg #[.int .i64 s, .int .i64 a, .int .i64 b, .int .i64 q], .agg #[.int .i64 t, .int .i64 c, .int .i64 d, .int .i64 r], .agg #[.int .u64 x, .int .u64 y]] w fun e w' => e = .returned (.bool true) ∧ Below w.heap.size w w' := by
  obtain ⟨ti, hti, _, hts, _⟩ := info_parts infoU64
  have heq := fun (W : World) (x y : Int) => run_eql_arr2 (P := Try.prog) (w := W) x y x y Try.underlying38 Try.underlying37 hti hts
  have hnq := fun (W : World) => run_neq_arr2 (P := Try.prog) (w := W) p0 p1 q0 q1 Try.underlying38 Try.underlying37 hti hts
  have hnz := fun (W : World) => run_neq_arr2 (P := Try.prog) (w := W) 0 0 0 0 Try.underlying38 Try.underlying37 hti hts
  simp only [beq_self_eq_true, Bool.and_self, Bool.not_true] at heq hnz
  have hnk : ∀ W : World, (binOp .neq 25 (.agg #[.int .i64 s, .int .i64 a, .int .i64 b, .int .i64 q]) (.agg #[.int .i64 s, .int .i64 a, .int .i64 b, .int .i64 q])).run Try.prog W = .ok (.bool false) W := fun W => by
    rw [run_neq_key]; simp
  clear hti hts
  have HA := hid HA
  have HB := hid HB
  have ⟨KA, KB, KX, HF⟩ := blk3 w #[.int .i64 s, .int .i64 a, .int .i64 b, .int .i64 q] #[.int .i64 t, .int .i64 c, .int .i64 d, .int .i64 r] #[.int .u64 x, .int .u64 y] 25 25 38
  subst h0; subst h1
  go_enter Try.func7, Try.ntmps7
  go_wp2_with fail
  refine (works_any _).mono ?_
  rintro e W1 ⟨rfl, f⟩
  replace KA := KA.keep f (fun h => h)
  replace KB := KB.keep f (fun h => h)
  replace KX := KX.keep f (fun h => h)
  replace HF := HF.trans f
  clear f
  have KA_0 := KA.cell 0 (v := .int .i64 s) rfl
  have KA_1 := KA.cell 1 (v := .int .i64 a) rfl
  have KA_2 := KA.cell 2 (v := .int .i64 b) rfl
  have KA_3 := KA.cell 3 (v := .int .i64 q) rfl
  have KA_z := KA.lt
  have KA_f := KA.free
  have KB_0 := KB.cell 0 (v := .int .i64 t) rfl
  have KB_1 := KB.cell 1 (v := .int .i64 c) rfl
  have KB_2 := KB.cell 2 (v := .int .i64 d) rfl
  have KB_3 := KB.cell 3 (v := .int .i64 r) rfl
  have KB_z := KB.lt
  have KB_f := KB.free
  have KX_0 := KX.cell 0 (v := .int .u64 x) rfl
  have KX_1 := KX.cell 1 (v := .int .u64 y) rfl
  have KX_z := KX.lt
  have KX_f := KX.free
  go_wp2_with fail
  refine (pack_any _ _ _ _ _).mono ?_
  rintro e W2 ⟨rfl, f⟩
  rw [HA.out]
  replace KA := KA.keep f (fun h => h)
  replace KB := KB.keep f (fun h => h)
  replace KX := KX.keep f (fun h => h)
  replace HF := HF.trans f
  clear f
  replace KA := KA.alloc (.cells #[.int .u64 p0, .int .u64 p1] 38)
  replace KB := KB.alloc (.cells #[.int .u64 p0, .int .u64 p1] 38)
  replace KX := KX.alloc (.cells #[.int .u64 p0, .int .u64 p1] 38)
  have KP := Blk.new W2 #[.int .u64 p0, .int .u64 p1] 38
  replace HF := HF.alloc (.cells #[.int .u64 p0, .int .u64 p1] 38)
  replace KB_0 := KB.cell 0 (v := .int .i64 t) rfl
  replace KB_1 := KB.cell 1 (v := .int .i64 c) rfl
  replace KB_2 := KB.cell 2 (v := .int .i64 d) rfl
  replace KB_3 := KB.cell 3 (v := .int .i64 r) rfl
  replace KB_z := KB.lt
  replace KB_f := KB.free
  go_wp2_with fail
  refine (pack_any _ _ _ _ _).mono ?_
  rintro e W3 ⟨rfl, f⟩
  rw [HB.out]
  replace KA := KA.keep f (fun h => h)
  replace KB := KB.keep f (fun h => h)
  replace KX := KX.keep f (fun h => h)
  replace KP := KP.keep f (fun h => h)
  replace HF := HF.trans f
  clear f
  replace KA := KA.alloc (.cells #[.int .u64 q0, .int .u64 q1] 38)
  replace KB := KB.alloc (.cells #[.int .u64 q0, .int .u64 q1] 38)
  replace KX := KX.alloc (.cells #[.int .u64 q0, .int .u64 q1] 38)
  replace KP := KP.alloc (.cells #[.int .u64 q0, .int .u64 q1] 38)
  have KQ := Blk.new W3 #[.int .u64 q0, .int .u64 q1] 38
  replace HF := HF.alloc (.cells #[.int .u64 q0, .int .u64 q1] 38)
  replace KA_0 := KA.cell 0 (v := .int .i64 s) rfl
  replace KA_1 := KA.cell 1 (v := .int .i64 a) rfl
  replace KA_2 := KA.cell 2 (v := .int .i64 b) rfl
  replace KA_3 := KA.cell 3 (v := .int .i64 q) rfl
  replace KA_z := KA.lt
  replace KA_f := KA.free
  replace KB_0 := KB.cell 0 (v := .int .i64 t) rfl
  replace KB_1 := KB.cell 1 (v := .int .i64 c) rfl
  replace KB_2 := KB.cell 2 (v := .int .i64 d) rfl
  replace KB_3 := KB.cell 3 (v := .int .i64 r) rfl
  replace KB_z := KB.lt
  replace KB_f := KB.free
  replace KX_0 := KX.cell 0 (v := .int .u64 x) rfl
  replace KX_1 := KX.cell 1 (v := .int .u64 y) rfl
  replace KX_z := KX.lt
  replace KX_f := KX.free
  have KP_0 := KP.cell 0 (v := .int .u64 p0) rfl
  have KP_1 := KP.cell 1 (v := .int .u64 p1) rfl
  have KP_z := KP.lt
  have KP_f := KP.free
  have KQ_0 := KQ.cell 0 (v := .int .u64 q0) rfl
  have KQ_1 := KQ.cell 1 (v := .int .u64 q1) rfl
  have KQ_z := KQ.lt
  have KQ_f := KQ.free
  have ⟨up0, up1, hok, es, ea, eb, eq⟩ := back HA.out
  have HU0 : Hid (unpV p0 p1 = .tuple #[.agg #[.int .i64 s, .int .i64 a, .int .i64 b, .int .i64 q], .int .i64 0]) := hid (by unfold unpV; rw [hok, es, ea, eb, eq]; rfl)
  clear hok es ea eb eq
  go_wp2_with fail
  refine (unpack_any _ _ _ up0 up1).mono ?_
  rintro e W4 ⟨rfl, f⟩
  rw [HU0.out]
  replace KA := KA.keep f (fun h => h)
  replace KB := KB.keep f (fun h => h)
  replace KX := KX.keep f (fun h => h)
  replace KP := KP.keep f (fun h => h)
  replace KQ := KQ.keep f (fun h => h)
  replace HF := HF.trans f
  clear f
  replace KA := KA.alloc (.cells #[.int .i64 s, .int .i64 a, .int .i64 b, .int .i64 q] 25)
  replace KB := KB.alloc (.cells #[.int .i64 s, .int .i64 a, .int .i64 b, .int .i64 q] 25)
  replace KX := KX.alloc (.cells #[.int .i64 s, .int .i64 a, .int .i64 b, .int .i64 q] 25)
  replace KP := KP.alloc (.cells #[.int .i64 s, .int .i64 a, .int .i64 b, .int .i64 q] 25)
  replace KQ := KQ.alloc (.cells #[.int .i64 s, .int .i64 a, .int .i64 b, .int .i64 q] 25)
  have KK := Blk.new W4 #[.int .i64 s, .int .i64 a, .int .i64 b, .int .i64 q] 25
  replace HF := HF.alloc (.cells #[.int .i64 s, .int .i64 a, .int .i64 b, .int .i64 q] 25)
  replace KA_0 := KA.cell 0 (v := .int .i64 s) rfl
  replace KA_1 := KA.cell 1 (v := .int .i64 a) rfl
  replace KA_2 := KA.cell 2 (v := .int .i64 b) rfl
  replace KA_3 := KA.cell 3 (v := .int .i64 q) rfl
  replace KA_z := KA.lt
  replace KA_f := KA.free
  replace KB_0 := KB.cell 0 (v := .int .i64 t) rfl
  replace KB_1 := KB.cell 1 (v := .int .i64 c) rfl
  replace KB_2 := KB.cell 2 (v := .int .i64 d) rfl
  replace KB_3 := KB.cell 3 (v := .int .i64 r) rfl
  replace KB_z := KB.lt
  replace KB_f := KB.free
  replace KX_0 := KX.cell 0 (v := .int .u64 x) rfl
  replace KX_1 := KX.cell 1 (v := .int .u64 y) rfl
  replace KX_z := KX.lt
  replace KX_f := KX.free
  replace KP_0 := KP.cell 0 (v := .int .u64 p0) rfl
  replace KP_1 := KP.cell 1 (v := .int .u64 p1) rfl
  replace KP_z := KP.lt
  replace KP_f := KP.free
  replace KQ_0 := KQ.cell 0 (v := .int .u64 q0) rfl
  replace KQ_1 := KQ.cell 1 (v := .int .u64 q1) rfl
  replace KQ_z := KQ.lt
  replace KQ_f := KQ.free
  have KK_0 := KK.cell 0 (v := .int .i64 s) rfl
  have KK_1 := KK.cell 1 (v := .int .i64 a) rfl
  have KK_2 := KK.cell 2 (v := .int .i64 b) rfl
  have KK_3 := KK.cell 3 (v := .int .i64 q) rfl
  have KK_z := KK.lt
  have KK_f := KK.free
  rcases hcs with ⟨o1, HK⟩ | ⟨⟨o1, o2, o3, o4⟩, HK⟩ | ⟨⟨o1, o2, o3, o4, o5, o6⟩, HK⟩ | ⟨⟨o1, o2, o3, o4, o5⟩, HK⟩ | ⟨⟨o1, o2⟩, HK⟩
  all_goals
    try rw [o3] at hnq
    try rw [o6] at hnq
    try rw [o5] at hnq
    try rw [o2] at hnq
    try simp only [Bool.and_true, Bool.true_and, Bool.false_and, Bool.and_false, Bool.not_true, Bool.not_false] at hnq
    go_wp2_with fail
    refine (keys_any _ _ _ _ _ _ _ _ _).mono ?_
    rintro e W5 ⟨rfl, f⟩
    rw [HK.out]
    replace KA := KA.keep f (fun h => h)
    replace KB := KB.keep f (fun h => h)
    replace KX := KX.keep f (fun h => h)
    replace KP := KP.keep f (fun h => h)
    replace KQ := KQ.keep f (fun h => h)
    replace KK := KK.keep f (fun h => h)
    replace HF := HF.trans f
    clear f
    replace KA_0 := KA.cell 0 (v := .int .i64 s) rfl
    replace KA_1 := KA.cell 1 (v := .int .i64 a) rfl
    replace KA_2 := KA.cell 2 (v := .int .i64 b) rfl
    replace KA_3 := KA.cell 3 (v := .int .i64 q) rfl
    replace KA_z := KA.lt
    replace KA_f := KA.free
    replace KB_0 := KB.cell 0 (v := .int .i64 t) rfl
    replace KB_1 := KB.cell 1 (v := .int .i64 c) rfl
    replace KB_2 := KB.cell 2 (v := .int .i64 d) rfl
    replace KB_3 := KB.cell 3 (v := .int .i64 r) rfl
    replace KB_z := KB.lt
    replace KB_f := KB.free
    replace KX_0 := KX.cell 0 (v := .int .u64 x) rfl
    replace KX_1 := KX.cell 1 (v := .int .u64 y) rfl
    replace KX_z := KX.lt
    replace KX_f := KX.free
    replace KP_0 := KP.cell 0 (v := .int .u64 p0) rfl
    replace KP_1 := KP.cell 1 (v := .int .u64 p1) rfl
    replace KP_z := KP.lt
    replace KP_f := KP.free
    replace KQ_0 := KQ.cell 0 (v := .int .u64 q0) rfl
    replace KQ_1 := KQ.cell 1 (v := .int .u64 q1) rfl
    replace KQ_z := KQ.lt
    replace KQ_f := KQ.free
    replace KK_0 := KK.cell 0 (v := .int .i64 s) rfl
    replace KK_1 := KK.cell 1 (v := .int .i64 a) rfl
    replace KK_2 := KK.cell 2 (v := .int .i64 b) rfl
    replace KK_3 := KK.cell 3 (v := .int .i64 q) rfl
    replace KK_z := KK.lt
    replace KK_f := KK.free
    cases hu : uOk x y with
    | false =>
      have HU : Hid (unpV x y = .tuple #[.agg #[.int .i64 0, .int .i64 0, .int .i64 0, .int .i64 0], .int .i64 2]) := hid (by unfold unpV; rw [hu]; rfl)
      clear hu
      go_wp2_with fail
      refine (unpack_any _ _ _ hx hy).mono ?_
      rintro e W8 ⟨rfl, f⟩
      rw [HU.out]
      replace KA := KA.keep f (fun h => h)
      replace KB := KB.keep f (fun h => h)
      replace KX := KX.keep f (fun h => h)
      replace KP := KP.keep f (fun h => h)
      replace KQ := KQ.keep f (fun h => h)
      replace KK := KK.keep f (fun h => h)
      replace HF := HF.trans f
      clear f
      go_wp2_with fail
      go_ret
      exact ⟨rfl, (HF.alloc _).below (Nat.le_refl _) (by simp)⟩
    | true =>
      have HU : Hid (unpV x y = .tuple #[.agg #[.int .i64 (uS x), .int .i64 (uA x y), .int .i64 (uB y), .int .i64 (uQ y)], .int .i64 0]) := hid (by unfold unpV; rw [hu]; rfl)
      have HV := hid (unp_yes hx hy hu)
      have HC : Hid (erOf (okKey (uS x) (uA x y) (uB y) (uQ y)) = 0) := hid (by simp only [uOk, Bool.and_eq_true] at hu; rw [hu.2]; rfl)
      clear hu
      go_wp2_with fail
      refine (unpack_any _ _ _ hx hy).mono ?_
      rintro e W8 ⟨rfl, f⟩
      rw [HU.out]
      replace KA := KA.keep f (fun h => h)
      replace KB := KB.keep f (fun h => h)
      replace KX := KX.keep f (fun h => h)
      replace KP := KP.keep f (fun h => h)
      replace KQ := KQ.keep f (fun h => h)
      replace KK := KK.keep f (fun h => h)
      replace HF := HF.trans f
      clear f
      clear KA
      clear KA_z
      clear KA_f
      clear KA_0
      clear KA_1
      clear KA_2
      clear KA_3
      clear KB
      clear KB_z
      clear KB_f
      clear KB_0
      clear KB_1
      clear KB_2
      clear KB_3
      clear KP
      clear KP_z
      clear KP_f
      clear KP_0
      clear KP_1
      clear KQ
      clear KQ_z
      clear KQ_f
      clear KQ_0
      clear KQ_1
      clear KK
      clear KK_z
      clear KK_f
      clear KK_0
      clear KK_1
      clear KK_2
      clear KK_3
      replace KX := KX.alloc (.cells #[.int .i64 (uS x), .int .i64 (uA x y), .int .i64 (uB y), .int .i64 (uQ y)] 25)
      have KR := Blk.new W8 #[.int .i64 (uS x), .int .i64 (uA x y), .int .i64 (uB y), .int .i64 (uQ y)] 25
      replace HF := HF.alloc (.cells #[.int .i64 (uS x), .int .i64 (uA x y), .int .i64 (uB y), .int .i64 (uQ y)] 25)
      replace KX_0 := KX.cell 0 (v := .int .u64 x) rfl
      replace KX_1 := KX.cell 1 (v := .int .u64 y) rfl
      replace KX_z := KX.lt
      replace KX_f := KX.free
      have KR_0 := KR.cell 0 (v := .int .i64 (uS x)) rfl
      have KR_1 := KR.cell 1 (v := .int .i64 (uA x y)) rfl
      have KR_2 := KR.cell 2 (v := .int .i64 (uB y)) rfl
      have KR_3 := KR.cell 3 (v := .int .i64 (uQ y)) rfl
      have KR_z := KR.lt
      have KR_f := KR.free
      go_wp2_with fail
      refine (pack_any _ _ _ _ _).mono ?_
      rintro e W9 ⟨rfl, f⟩
      rw [HV.out]
      replace KX := KX.keep f (fun h => h)
      replace KR := KR.keep f (fun h => h)
      replace HF := HF.trans f
      clear f
      replace KX := KX.alloc (.cells #[.int .u64 x, .int .u64 y] 38)
      replace KR := KR.alloc (.cells #[.int .u64 x, .int .u64 y] 38)
      have KY := Blk.new W9 #[.int .u64 x, .int .u64 y] 38
      replace HF := HF.alloc (.cells #[.int .u64 x, .int .u64 y] 38)
      replace KX_0 := KX.cell 0 (v := .int .u64 x) rfl
      replace KX_1 := KX.cell 1 (v := .int .u64 y) rfl
      replace KX_z := KX.lt
      replace KX_f := KX.free
      replace KR_0 := KR.cell 0 (v := .int .i64 (uS x)) rfl
      replace KR_1 := KR.cell 1 (v := .int .i64 (uA x y)) rfl
      replace KR_2 := KR.cell 2 (v := .int .i64 (uB y)) rfl
      replace KR_3 := KR.cell 3 (v := .int .i64 (uQ y)) rfl
      replace KR_z := KR.lt
      replace KR_f := KR.free
      have KY_0 := KY.cell 0 (v := .int .u64 x) rfl
      have KY_1 := KY.cell 1 (v := .int .u64 y) rfl
      have KY_z := KY.lt
      have KY_f := KY.free
      go_wp2_with fail
      refine (check_any _ _ _ _ _).mono ?_
      rintro e W10 ⟨rfl, f⟩
      rw [HC.out]
      replace KX := KX.keep f (fun h => h)
      replace KR := KR.keep f (fun h => h)
      replace KY := KY.keep f (fun h => h)
      replace HF := HF.trans f
      clear f
      go_wp2_with fail
      go_ret
      exact ⟨rfl, HF.below (Nat.le_refl _) (by simp)⟩

theorem cases5 {s a b q t c d r p0 p1 q0 q1 : Int} (h : Sized s a b q) (k : Sized t c d r) (e0 : p0 = hiOf s a) (e1 : p1 = loOf a b q) (e2 : q0 = hiOf t c) (e3 : q1 = loOf c d r) :
    p0 < q0 ∧ Hid (kcmp s a b q t c d r = -1) ∨ (p0 ≤ q0 ∧ q0 ≤ p0 ∧ (p0 == q0) = true ∧ p1 < q1) ∧ Hid (kcmp s a b q t c d r = -1) ∨ (p0 ≤ q0 ∧ q0 ≤ p0 ∧ (p0 == q0) = true ∧ p1 ≤ q1 ∧ q1 ≤ p1 ∧ (p1 == q1) = true) ∧ Hid (kcmp s a b q t c d r = 0) ∨ (p0 ≤ q0 ∧ q0 ≤ p0 ∧ (p0 == q0) = true ∧ q1 < p1 ∧ (p1 == q1) = false) ∧ Hid (kcmp s a b q t c d r = 1) ∨ (q0 < p0 ∧ (p0 == q0) = false) ∧ Hid (kcmp s a b q t c d r = 1) := by
  have h1 := pack_lt h k
  have h2 := pack_eq h k
  have h3 := kcmp_bd s a b q t c d r
  rw [← e0, ← e1, ← e2, ← e3] at h1 h2
  generalize kcmp s a b q t c d r = K at *
  simp only [beq_iff_eq, beq_eq_false_iff_ne, ne_eq]
  unfold Hid
  omega

theorem back_walk (v0 v1 v2 : Value) (w : World) (w0 : IsKey v0) (w1 : IsKey v1) (w2 : IsPair v2) :
    Calls Try.prog 7 #[v0, v1, v2] w fun e w' => e = .returned (.bool true) ∧ Below w.heap.size w w' := by
  obtain ⟨s, a, b, q, rfl, _, _, _, _⟩ := w0
  obtain ⟨t, c, d, r, rfl, _, _, _, _⟩ := w1
  obtain ⟨x, y, rfl, hx, hy⟩ := w2
  obtain ⟨⟨p0, p1, e⟩, HA⟩ : ∃ p, packOf s a b q = p := ⟨_, rfl⟩
  obtain ⟨⟨q0, q1, f⟩, HB⟩ : ∃ p, packOf t c d r = p := ⟨_, rfl⟩
  by_cases he : e = 0
  · by_cases hf : f = 0
    · have ha := HA
      have hb := HB
      rw [he] at ha
      rw [hf] at hb
      obtain ⟨a1, a2, a3, a4⟩ := packOf_good ha
      obtain ⟨b1, b2, b3, b4⟩ := packOf_good hb
      exact back_both s a b q t c d r x y w hx hy p0 p1 e q0 q1 f HA HB he hf (cases5 (sized a1 a2) (sized b1 b2) a3 a4 b3 b4)
    · exact back_half s a b q t c d r x y w hx hy p0 p1 e q0 q1 f HA HB he (by simpa using hf)
  · obtain ⟨h0, h1⟩ := packOf_bad HA he
    exact back_no s a b q t c d r x y w hx hy p0 p1 e q0 q1 f HA HB (by simpa using he) h0 h1
end Go.Proofs.Ytfhhcbacnlakiaa
