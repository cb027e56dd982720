/-
  TWINS (ch 11): works. Conditions: none.
-/
import Derived.Test.YtalbncnhmofgaaaTwD
namespace Go.Proofs.Ytalbncnhmofgaaa
open Go.RowKit

set_option linter.unusedSimpArgs false
def upd (A : HM) (a : Int) (x : Int × List Int) : HM := fun k => if k = a then some x else A k
/-- The bytes of a frame that may be. -/
def fz (a b c : Int) (bs : List Int) : List Int := sealed (fmB a b c bs)
theorem fz_pack {a b c : Int} {bs : List Int} (hk : okF a b c = true) (hl : bs.length ≤ 512) : packR a b c bs = (fz a b c bs, 0) := by
  unfold packR; rw [if_neg (by omega), if_pos hk]; rfl
theorem fz_len {a b c : Int} {bs : List Int} (hl : bs.length ≤ 512) : (fz a b c bs).length ≤ 552 := by
  have := fmB_len a b c bs
  unfold fz; rw [sealed_len]; omega
theorem fz_byte {a b c : Int} {bs : List Int} (hk : okF a b c = true) (hl : bs.length ≤ 512) (hb : AllB bs) : AllB (fz a b c bs) := sealed_byte (fmB_byte hk hb hl)
theorem fz_open {a b c : Int} {bs : List Int} (hk : okF a b c = true) (hl : bs.length ≤ 512) : openF (fz a b c bs) = ⟨a, b, c, bs, 0⟩ := open_pack hk hl
theorem chk_ok {n : Nat} {l : Int} (h0 : 0 ≤ l) (h1 : l < n) : chkR n l = 0 := by unfold chkR; rw [if_neg (by omega), if_neg (by omega)]
theorem unwR_fz {s : TS} {A : HM} {l a b c : Int} {bs : List Int} (hk : okF a b c = true) (hl : bs.length ≤ 512) (h0 : 0 ≤ l) (h1 : l < s.n) : unwR s A l (fz a b c bs) = (bs, freshH (A a) b c, 0) := by
  unfold unwR; rw [chk_ok h0 h1, fz_open hk hl]; simp
theorem unwS_fz {s : TS} {l a b c : Int} {bs : List Int} (hk : okF a b c = true) (hl : bs.length ≤ 512) (h0 : 0 ≤ l) (h1 : l < s.n) : unwS s l (fz a b c bs) = lookF (incS s l.toNat) := by
  unfold unwS; rw [chk_ok h0 h1, fz_open hk hl]; simp
theorem unwA_fz {s : TS} {A : HM} {l a b c : Int} {bs : List Int} (hk : okF a b c = true) (hl : bs.length ≤ 512) (h0 : 0 ≤ l) (h1 : l < s.n) : unwA s A l (fz a b c bs) = upd A a (nextH (A a) b c) := by
  unfold unwA; rw [chk_ok h0 h1, fz_open hk hl]; simp; rfl
theorem inv_come {s : TS} {N : Int} (h : s.inv N) {l : Int} (h0 : 0 ≤ l) (h1 : l < s.n) : (lookF (incS s l.toNat)).inv (N + 1) := inv_look (inv_inc h (by omega))
theorem n_come (s : TS) (l : Nat) : (lookF (incS s l)).n = s.n := by
  rw [show lookF (incS s l) = lookK (incS s l) (incS s l).n from rfl, (alike_k (incS s l) _).2.2.2.2.2.1]
  unfold incS; split
  · rfl
  · split <;> rfl
section
variable {X : Nat → Prop} {w0 w : World} {p : Nat} {s : TS} {A : HM} {N : Int}
theorem comes_fz (l : Int) (v : Value) (a b c : Int) (bs : List Int) (h : T1 X w0 w p s A) (hi : s.inv N) (hN : N ≤ 576460752303423488) (hv : Vw .u8 w v (fz a b c bs)) (hb : AllB bs) (hk : okF a b c = true) (hl : bs.length ≤ 512) (h0 : 0 ≤ l) (h1 : l < s.n) :
    Calls Try.prog 23 #[.pointer (some ⟨p, 0, none⟩), .int .i64 l, v] w fun e w' => e = .returned (.int .i64 (if freshH (A a) b c then 1 else 0)) ∧ T1 X w0 w' p (lookF (incS s l.toNat)) (upd A a (nextH (A a) b c)) ∧ Fr (fun b => ¬ X b) w w' := by
  have := comes_1 l v (fz a b c bs) h hi hN hv (fz_byte hk hl hb) (by have := fz_len (a := a) (b := b) (c := c) hl; omega)
  rw [unwR_fz hk hl h0 h1, unwS_fz hk hl h0 h1, unwA_fz hk hl h0 h1] at this
  exact this
theorem frame_fz (a b c : Int) (u : Value) (bs : List Int) (w : World) (hv : Vw .u8 w u bs) (hb : AllB bs) (hk : okF a b c = true) (hl : bs.length ≤ 512) : Calls Try.prog 22 #[.int .i64 a, .int .i64 b, .int .i64 c, u] w (IsFrm w (fz a b c bs)) := by
  have := frame_tw a b c u bs w hv hb
  rw [fz_pack hk hl] at this
  exact this
end
set_option maxRecDepth 100000 in
set_option maxHeartbeats 8000000 in
theorem works_tw (w : World) : Calls Try.prog 17 #[] w fun e w' => e = .returned (.bool true) ∧ Fr (fun _ => False) w w' := by
  go_enter Try.func17, Try.ntmps17
  go_wp2_with fail
  with_reducible refine (frame_fz 1 2 3 (.slice (some ⟨w.heap.size, 0, none⟩) 1 1) [171] _ (vw_lit w [171] #[.int .u8 171] 1 rfl rfl (by decide)) (allB_of (by decide)) (by decide) (by decide)).mono ?_
  rintro e w1 ⟨v1, rfl, r1, f1, _⟩
  obtain ⟨a1, c1, rfl⟩ := row_shape r1
  have HF1 := hid (((Fr.refl (fun _ => False) w).alloc (.cells #[.int .u8 171] 5)).trans f1)
  have HV1 := hid (Vw.of_row r1)
  have hl1 : (fz 1 2 3 [171]).length ≤ 552 := fz_len (by decide)
  have HZ : Hid (fz 1 2 3 [171] = sealed [1, 2, 3, 1, 171]) := hid rfl
  have HO := hid (fz_open (a := 1) (b := 2) (c := 3) (bs := [171]) (by decide) (by decide))
  have HBZ : Hid (AllB (fz 1 2 3 [171])) := hid (fz_byte (by decide) (by decide) (allB_of (by decide)))
  generalize fz 1 2 3 [171] = Z at *
  generalize hzl : Z.length = nz at *
  clear r1 f1
  go_wp2_with fail
  have HOP := hid (open_tw _ Z w1 HV1.out HBZ.out (by omega))
  rw [HO.out] at HOP
  with_reducible refine HOP.out.mono ?_
  rintro e w2 ⟨v2, rfl, r2, f2, h2⟩
  obtain ⟨a2, c2, rfl⟩ := row_shape r2
  have HF2 := hid (HF1.out.trans f2)
  have HV1b := hid (HV1.out.keep0 f2)
  have HV2 : Hid (Vw .u8 w2 _ [171]) := hid (Vw.of_row r2)
  have HL2 := hid (row_live r2)
  clear HOP HV1 HF1 f2 r2 h2 hl1
  simp only [List.length_cons, List.length_nil] at *
  go_wp2_with (refine wpList_new rfl 24 rfl #[.int .i64 0, .int .i64 0, .int .i64 0, .slice none 0 0] zeroFrame ?_)
  intro y w3 hy B3 f3 z3
  have HF3 := hid (HF2.out.trans f3)
  have hyw : w.heap.size ≤ y := by have := HF2.out.size; omega
  have HV1c := hid (HV1b.out.keep0 f3)
  have HV2c := hid (HV2.out.keep0 f3)
  have hya : ∀ k, k ∈ footOf (.slice a2 (0 + 1) c2) → ¬ k = y := fun k hk => by have := HL2.out k hk; omega
  have hyb : ∀ k, k ∈ footOf (.slice a1 nz c1) → ¬ k = y := fun k hk => by
    have h1 := HV1b.out
    intro e
    subst hzl
    by_cases h0 : Z = []
    · subst h0; simp [sealed, be] at HZ; exact absurd HZ.out (by simp)
    · have := h1.live h0 k hk; omega
  clear z3 f3 HF2 HV1b HV2 HL2 hy
  go_wp2_with (refine wpList_store_part rfl 24 _ _ rfl aggFrame y 0 rfl B3 (.agg #[.int .i64 1, .int .i64 2, .int .i64 3, .slice a2 (0 + 1) c2]) rfl rfl (one_fr 1 2 3 a2 (0 + 1) c2) (by decide) #[.int .i64 1, .int .i64 2, .int .i64 3, .slice a2 (0 + 1) c2] rfl ?_)
  intro w4 B4 f4 z4
  have HF4 := hid (HF3.out.intoNew f4 hyw)
  have HY4 := hid B4
  have HV1d := hid (HV1c.out.keep f4 hyb)
  have HV2d := hid (HV2c.out.keep f4 hya)
  clear B4 f4 z4 B3 HF3 HV1c HV2c hya hyb
  go_wp2_with fail
  refine (new_1 4 1 2 true w w4 (by decide) (by decide) (by decide) (by decide) (by decide) HF4.out).mono ?_
  rintro e w5 ⟨p, rfl, t5, f5⟩
  have HT5 := hid (t5.less (Y := fun _ => False) (fun _ h => h.elim))
  have HY5 := hid (HY4.out.keep f5 (fun h => h))
  have HV1e := hid (HV1d.out.keep0 f5)
  have HV2e := hid (HV2d.out.keep0 f5)
  clear t5 f5 HY4 HV1d HV2d HF4
  go_wp2_with fail
  with_reducible refine (seal_any _ [1, 2, 3, 1, 171] _ (vw_lit w5 [1, 2, 3, 1, 171] #[.int .u8 1, .int .u8 2, .int .u8 3, .int .u8 1, .int .u8 171] 5 rfl rfl (by decide)) (allB_of (by decide)) (by decide)).mono ?_
  rintro e w6 ⟨v6, rfl, r6, f6, _⟩
  obtain ⟨a6, c6, rfl⟩ := row_shape r6
  have f56 : Fr (fun _ => False) w5 w6 := ((Fr.refl (fun _ => False) w5).alloc (.cells #[.int .u8 1, .int .u8 2, .int .u8 3, .int .u8 1, .int .u8 171] 5)).trans f6
  have HT6 := hid (HT5.out.keep0 f56)
  have HY6 := hid (HY5.out.keep f56 (fun h => h))
  have HV1f := hid (HV1e.out.keep0 f56)
  have HV2f := hid (HV2e.out.keep0 f56)
  have HV6 := hid (Vw.of_row (n := [1, 2, 3, 1, 171].length + 4) r6)
  clear r6 f6 f56 HT5 HY5 HV1e HV2e
  go_wp2_with fail
  have HEQ := hid (eqBytes_any _ _ Z _ w6 HV1f.out HV6.out HBZ.out (sealed_byte (allB_of (by decide))))
  rw [show decide (Z = sealed [1, 2, 3, 1, 171]) = true from decide_eq_true HZ.out] at HEQ
  refine HEQ.out.mono ?_
  rintro e w7 ⟨rfl, f7⟩
  have HT7 := hid (HT6.out.keep0 f7)
  have HY7 := hid (HY6.out.keep f7 (fun h => h))
  have HV2g := hid (HV2f.out.keep0 f7)
  clear f7 HT6 HY6 HV2f HV1f HV6 HEQ HZ HBZ HO
  have y0 := HY7.out.cell (i := 0) rfl
  have y1 := HY7.out.cell (i := 1) rfl
  have y2 := HY7.out.cell (i := 2) rfl
  have y3 := HY7.out.cell (i := 3) rfl
  go_wp2_with fail
  clear y0 y1 y2 y3
  have f78 := (Fr.refl (fun _ => False) w7).alloc (.cells #[.int .u8 171] 5)
  have HSM := hid (same_tw 1 2 3 _ [171] 1 2 3 _ [171] _ (HV2g.out.keep0 f78) (vw_lit w7 [171] #[.int .u8 171] 1 rfl rfl (by decide)) (allB_of (by decide)) (allB_of (by decide)))
  rw [show sameF 1 2 3 [171] 1 2 3 [171] = true by decide] at HSM
  refine HSM.out.mono ?_
  rintro e w8 ⟨rfl, f8⟩
  have HT8 := hid (HT7.out.keep0 (f78.trans f8))
  clear f8 f78 HT7 HY7 HV2g HSM
  go_wp2_with fail
  have f9 := (Fr.refl (fun _ => False) w8).alloc (.cells #[.int .u8 9] 5)
  have HI8 : Hid ((TS.new 4 1 2 true).inv 0) := hid (invT_new (by decide) (by decide))
  have HWR := hid (wrap_1 _ [9] (HT8.out.keep0 f9) HI8.out (by decide) (vw_lit w8 [9] #[.int .u8 9] 1 rfl rfl (by decide)) (allB_of (by decide)))
  have HI9 := hid (inv_wrap HI8.out [9])
  rw [show wrapR (TS.new 4 1 2 true) [9] = (fz 4 1 1 [9], 3, 0) by (show (if 512 < 1 then _ else ((packR 4 1 (0 + 1) [9]).1, overF (TS.new 4 1 2 true), (packR 4 1 (0 + 1) [9]).2)) = _); rw [if_neg (by decide), fz_pack (by decide) (by decide)]; rfl] at HWR
  with_reducible refine HWR.out.mono ?_
  rintro e w9 ⟨v9, rfl, r9, _, t9, g9⟩
  obtain ⟨a9, c9, rfl⟩ := row_shape r9
  have HT9 := hid t9
  have HV9 := hid (Vw.of_row r9)
  have HBZ : Hid (AllB (fz 4 1 1 [9])) := hid (fz_byte (by decide) (by decide) (allB_of (by decide)))
  have hlz : (fz 4 1 1 [9]).length ≤ 552 := fz_len (by decide)
  have HWE : Hid (wrapS (TS.new 4 1 2 true) [9] = ⟨4, 1, true, 1, 0, 2, 0, false, 0, false, 0, false⟩) := hid rfl
  rw [HWE.out] at HT9 HI9
  clear t9 g9 r9 f9 HWR HT8 HI8 HWE
  have HFR := hid (fun W => frame_fz 4 1 1 (.slice (some ⟨W.heap.size, 0, none⟩) 1 1) [9] _ (vw_lit W [9] #[.int .u8 9] 1 rfl rfl (by decide)) (allB_of (by decide)) (by decide) (by decide))
  generalize fz 4 1 1 [9] = Z9 at *
  generalize hz9 : Z9.length = n9 at *
  go_wp2_with fail
  with_reducible refine (HFR.out _).mono ?_
  rintro e wa ⟨va, rfl, ra, fa, _⟩
  rw [hz9] at ra
  obtain ⟨aa, ca, rfl⟩ := row_shape ra
  have f9a : Fr (fun _ => False) w9 wa := ((Fr.refl (fun _ => False) w9).alloc (.cells #[.int .u8 9] 5)).trans fa
  have HTa := hid (HT9.out.keep0 f9a)
  have HVa := hid (Vw.of_row ra)
  have HV9a := hid (HV9.out.keep0 f9a)
  clear ra fa f9a HT9 HV9 HFR
  go_wp2_with fail
  have HEQ := hid (eqBytes_any _ _ Z9 Z9 wa HV9a.out HVa.out HBZ.out HBZ.out)
  rw [show decide (Z9 = Z9) = true from decide_eq_true rfl] at HEQ
  with_reducible refine HEQ.out.mono ?_
  rintro e wb ⟨rfl, fb⟩
  have HTb := hid (HTa.out.keep0 fb)
  clear fb HTa HVa HV9a HEQ HBZ
  have HT := HTb
  have HI := HI9
  clear HTb HI9
  generalize wb = wz at *
  go_wp2_with fail
  with_reducible refine (frame_fz 5 7 1 (.slice none 0 0) [] _ (Vw.nil _ _) AllB.nil (by decide) (by decide)).mono ?_
  rintro e wx ⟨vx, rfl, rx, fx, _⟩
  obtain ⟨ax, cx, rfl⟩ := row_shape rx
  have HTx := hid (HT.out.keep0 fx)
  have HC := hid (comes_fz 0 _ 5 7 1 [] HTx.out HI.out (by decide) (Vw.of_row rx) AllB.nil (by decide) (by decide) (by decide) (by decide))
  have HIx := hid (inv_come HI.out (l := 0) (by decide) (by decide))
  rw [show (if freshH _ 7 1 = true then (1 : Int) else 0) = 1 by decide] at HC
  clear rx HT HI
  go_wp2_with fail
  with_reducible refine HC.out.mono ?_
  rintro e wy ⟨rfl, ty, _⟩
  have HT := hid ty
  have HI := HIx
  clear HIx ty HC HTx fx
  go_wp2_with fail
  with_reducible refine (frame_fz 5 7 1 (.slice none 0 0) [] _ (Vw.nil _ _) AllB.nil (by decide) (by decide)).mono ?_
  rintro e wx ⟨vx, rfl, rx, fx, _⟩
  obtain ⟨ax, cx, rfl⟩ := row_shape rx
  have HTx := hid (HT.out.keep0 fx)
  have HC := hid (comes_fz 1 _ 5 7 1 [] HTx.out HI.out (by decide) (Vw.of_row rx) AllB.nil (by decide) (by decide) (by decide) (by decide))
  have HIx := hid (inv_come HI.out (l := 1) (by decide) (by decide))
  rw [show (if freshH _ 7 1 = true then (1 : Int) else 0) = 0 by decide] at HC
  clear rx HT HI
  go_wp2_with fail
  with_reducible refine HC.out.mono ?_
  rintro e wy ⟨rfl, ty, _⟩
  have HT := hid ty
  have HI := HIx
  clear HIx ty HC HTx fx
  go_wp2_with fail
  with_reducible refine (frame_fz 5 6 2 (.slice none 0 0) [] _ (Vw.nil _ _) AllB.nil (by decide) (by decide)).mono ?_
  rintro e wx ⟨vx, rfl, rx, fx, _⟩
  obtain ⟨ax, cx, rfl⟩ := row_shape rx
  have HTx := hid (HT.out.keep0 fx)
  have HC := hid (comes_fz 1 _ 5 6 2 [] HTx.out HI.out (by decide) (Vw.of_row rx) AllB.nil (by decide) (by decide) (by decide) (by decide))
  have HIx := hid (inv_come HI.out (l := 1) (by decide) (by decide))
  rw [show (if freshH _ 6 2 = true then (1 : Int) else 0) = 0 by decide] at HC
  clear rx HT HI
  go_wp2_with fail
  with_reducible refine HC.out.mono ?_
  rintro e wy ⟨rfl, ty, _⟩
  have HT := hid ty
  have HI := HIx
  clear HIx ty HC HTx fx
  go_wp2_with fail
  with_reducible refine (frame_fz 5 8 1 (.slice none 0 0) [] _ (Vw.nil _ _) AllB.nil (by decide) (by decide)).mono ?_
  rintro e wx ⟨vx, rfl, rx, fx, _⟩
  obtain ⟨ax, cx, rfl⟩ := row_shape rx
  have HTx := hid (HT.out.keep0 fx)
  have HC := hid (comes_fz 1 _ 5 8 1 [] HTx.out HI.out (by decide) (Vw.of_row rx) AllB.nil (by decide) (by decide) (by decide) (by decide))
  have HIx := hid (inv_come HI.out (l := 1) (by decide) (by decide))
  rw [show (if freshH _ 8 1 = true then (1 : Int) else 0) = 1 by decide] at HC
  clear rx HT HI
  go_wp2_with fail
  with_reducible refine HC.out.mono ?_
  rintro e wy ⟨rfl, ty, _⟩
  have HT := hid ty
  have HI := HIx
  clear HIx ty HC HTx fx
  have HFL := hid (faulty_1 HT.out HI.out)
  rw [show faultyF (lookF _) = 0 from (by kernel_rfl)] at HFL
  go_wp2_with fail
  with_reducible refine HFL.out.mono ?_
  rintro e wq ⟨rfl, fq⟩
  go_wp2_with fail
  go_ret
  exact ⟨rfl, HT.out.fr.trans fq⟩
end Go.Proofs.Ytalbncnhmofgaaa
