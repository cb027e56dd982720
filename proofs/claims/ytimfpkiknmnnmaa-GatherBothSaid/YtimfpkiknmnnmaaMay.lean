/-
  JOINS THAT COME IN; THE STATEMENTS' OWN 'may'. Conditions: none.
-/
import Derived.Test.YtimfpkiknmnnmaaWorks18
import Derived.Test.YtimfpkiknmnnmaaFlat
import Derived.Test.YtimfpkiknmnnmaaBring
namespace Go.Proofs.Ytimfpkiknmnnmaa
open Go.RowKit Go.ChangeShapes Go.WideShapes Go.Deep

def j0 : J3 := (0, 0, 0)
def jc (j : J3) : List Value := [.int .i64 j.1, .int .i64 j.2.1, .int .i64 j.2.2]
structure I64 (x : Int) : Prop where
  lo : -9223372036854775808 ≤ x
  hi : x ≤ 9223372036854775807
def wfJ (j : J3) : Prop := I64 j.1 ∧ I64 j.2.1 ∧ I64 j.2.2
def IsJoins (w : World) (v : Value) (K : List J3) : Prop := ∃ ao cap, v = .slice ao K.length cap ∧ K.length ≤ cap ∧ cap ≤ maxLen ∧
  ∀ i, i < K.length → wfJ (K.getD i j0) ∧ ∃ b off, ao = some ⟨b, off, none⟩ ∧ b < w.heap.size ∧ ∀ j, j < 3 → w.cell? ⟨b, off + (i * 3 + j), none⟩ = (jc (K.getD i j0))[j]?
theorem leafJoin : leafOk Try.prog 4 34 = true := by kernel_rfl
theorem leavesJoin : leaves Try.prog 4 34 = [3, 3, 3] := by kernel_rfl
theorem cellsJoin : Try.prog.cellsOf 34 = 3 := by kernel_rfl
theorem wf_i64 {n : Int} (h : (Lit.int .i64 n).wf = true) : I64 n := ⟨(wf_i64_bd h).1, (wf_i64_bd h).2⟩
theorem join_cells {H : Type} {enc : TypeId × Value → H} {w : World} {base : Nat} {spare : Nat → Bool} {held : Bool} {fuel : Nat} {cs : List Value} {x : DataW H × List MemPlace} (hl : cs.length = 3)
    (h : DataW.trod enc Try.prog w base spare held fuel 34 cs = some x) : ∃ j : J3, cs = jc j ∧ wfJ j := by
  obtain ⟨zs, rfl, hw⟩ := flat_ints (k := .i64) leafJoin (by rw [leavesJoin]; intro u hu; simp at hu; subst hu; exact Try.underlying3) (by rw [leavesJoin]; exact hl) h
  match zs, hl, hw with
  | [s, a, b], _, hw => exact ⟨(s, a, b), rfl, wf_i64 (hw s (by simp)), wf_i64 (hw a (by simp)), wf_i64 (hw b (by simp))⟩
theorem joins_open {H : Type} {enc : TypeId × Value → H} {w : World} {r : Reach} {b0 base : Nat} {spare : Nat → Bool} {held : Bool} {v : Value} {d : DataW H} {p : List MemPlace}
    (hok : Value.okWide Try.prog w r b0 22 v) (h : DataW.Trod enc Try.prog w base spare held 22 v d p) : ∃ K, IsJoins w v K := by
  obtain ⟨a0, len0, cap0, rfl⟩ := okWide_slice Try.underlying22 hok
  obtain ⟨fuel, hf⟩ := h
  obtain ⟨a, len, cap, he, hl, hm, hi⟩ := open_elems Try.underlying22 (by rw [cellsJoin]; decide) hf
  have hi2 : ∀ i, i < len → ∃ k : J3, wfJ k ∧ ∃ b off, a = some ⟨b, off, none⟩ ∧ b < w.heap.size ∧ ∀ j, j < 3 → w.cell? ⟨b, off + (i * 3 + j), none⟩ = (jc k)[j]? := by
    intro i hlt
    obtain ⟨b, off, cs, h1, h2, h3, ⟨n, y, h4⟩, h5⟩ := hi i hlt
    rw [cellsJoin] at h3 h5
    obtain ⟨j, rfl, hj⟩ := join_cells h3 h4
    exact ⟨j, hj, b, off, h1, h2, h5⟩
  obtain ⟨f, hf2⟩ := choose_lt hi2
  refine ⟨(List.range len).map f, a, cap, by rw [he]; simp, by simpa using hl, hm, fun i hlt => ?_⟩
  simp at hlt
  have := hf2 i hlt
  rw [List.getD_eq_getElem?_getD]
  simpa [hlt] using this

/-! ### bits -/
theorem and510 (p : Int) : ∃ q : Nat, bits .and .i64 p 510 = (q : Int) ∧ q < 512 ∧ q % 2 = 0 := by
  have h0 : bits .and .i64 p 510 = IntKind.i64.wrap ((BitVec.ofInt 64 p &&& BitVec.ofInt 64 510).toNat : Int) := rfl
  rw [h0, BitVec.toNat_and]
  have h1 : (BitVec.ofInt 64 510).toNat = 510 := by decide
  rw [h1]
  generalize (BitVec.ofInt 64 p).toNat = x
  have hle : x &&& 510 ≤ 510 := Nat.and_le_right
  refine ⟨x &&& 510, wrap_i64_nat _ (by omega), by omega, ?_⟩
  have ht : (x &&& 510).testBit 0 = false := by
    rw [Nat.testBit_and]
    have : Nat.testBit 510 0 = false := by decide
    rw [this, Bool.and_false]
  rw [Nat.testBit_zero] at ht
  have := of_decide_eq_false ht
  omega
theorem chk_all : (List.range 512).all (fun x => x % 2 == 1 || !chkV ((x : Nat) : Int)) = true := by kernel_rfl
theorem chk_ok {x : Nat} (h : x < 512) (h2 : x % 2 = 0) : chkV (x : Int) = false := by
  have := List.all_eq_true.1 chk_all x (List.mem_range.2 h)
  simpa [h2] using this
theorem has_bit {x : Nat} {n : Int} (h : x < 512) (h1 : 1 ≤ n) (h2 : n ≤ 8) : hasV (x : Int) n = x.testBit n.toNat := by
  unfold hasV
  rw [bit_test x n.toNat (by omega)]
  simp; omega
theorem or_even {q n : Nat} (h : q % 2 = 0) (hn : 0 < n) : (q ||| 2 ^ n) % 2 = 0 := by
  have h1 : (q ||| 2 ^ n).testBit 0 = false := by
    rw [Nat.testBit_or, Nat.testBit_two_pow]
    have : ¬ n = 0 := by omega
    simp [Nat.testBit_zero, h, this]
  rw [Nat.testBit_zero] at h1
  have := of_decide_eq_false h1
  omega
/-- A join that may be. -/
theorem okJ_may {q : Nat} {n c : Int} (hq : q < 512) (h2 : q % 2 = 0) (h3 : 1 ≤ n) (h4 : n ≤ 8) (h5 : 0 ≤ c) (h6 : c ≤ 9007199254740991) : okJ (n, ((q ||| 2 ^ n.toNat : Nat) : Int), c) = true := by
  have hx : q ||| 2 ^ n.toNat < 2 ^ 9 := Nat.or_lt_two_pow (by omega) (two_pow_512 h3 h4)
  simp only [okJ]
  rw [chk_ok (by omega) (or_even h2 (by omega)), has_bit (by omega) h3 h4, Nat.testBit_or, Nat.testBit_two_pow]
  simp [numV, h5, h6]

def IsMay (j : J3) : Prop := okJ j = true ∧ 1 ≤ j.1 ∧ j.1 ≤ 8 ∧ 0 ≤ j.2.2 ∧ j.2.2 ≤ 9007199254740991

set_option maxRecDepth 100000 in
set_option maxHeartbeats 1000000 in
theorem may_any (j : J3) (w : World) (hj : wfJ j) : Calls Try.prog 20 #[.agg #[.int .i64 j.1, .int .i64 j.2.1, .int .i64 j.2.2]] w fun e w' => ∃ k : J3, e = .returned (.agg #[.int .i64 k.1, .int .i64 k.2.1, .int .i64 k.2.2]) ∧ IsMay k ∧ Fr (fun _ => False) w w' := by
  obtain ⟨s, p, c⟩ := j
  obtain ⟨⟨s0, s1⟩, ⟨p0, p1⟩, ⟨c0, c1⟩⟩ := hj
  simp only at s0 s1 p0 p1 c0 c1 ⊢
  have hz1 := blk2 w #[.int .i64 s, .int .i64 p, .int .i64 c] #[.int .i64 0, .int .i64 0, .int .i64 0] 34 34
  obtain ⟨HZ, HR, f1⟩ := hz1
  go_enter Try.func20, Try.ntmps20
  go_wp2_with fail
  generalize (w.alloc (.cells #[.int .i64 s, .int .i64 p, .int .i64 c] 34)).alloc (.cells #[.int .i64 0, .int .i64 0, .int .i64 0] 34) = w1 at *
  have hRw : w.heap.size ≤ w.heap.size + 1 := by omega
  have hRz : w.heap.size ≠ w.heap.size + 1 := by omega
  generalize w.heap.size + 1 = R at *
  have HRW : Hid (w.heap.size ≤ R) := hid hRw
  clear hRw
  obtain ⟨z, hz⟩ : ∃ z, z = w.heap.size := ⟨_, rfl⟩
  rw [← hz] at HZ hRz ⊢
  have z0 := HZ.cell 0 rfl
  have z1 := HZ.cell 1 rfl
  have z2 := HZ.cell 2 rfl
  refine (bring_any s 8 w1 s0 s1 (by decide) (by decide)).mono ?_
  rintro e w1' ⟨rfl, rfl⟩
  have hb := bring_bd s 8 (by decide)
  generalize bring s 8 = y at *
  obtain ⟨n, hn⟩ : ∃ n, n = 1 + y := ⟨_, rfl⟩
  have hwr : wrap64 (1 + y) = n := by rw [hn]; simp only [wrap64]; omega
  have hn0 : 1 ≤ n := by omega
  have hn1 : n ≤ 8 := by omega
  obtain ⟨q, hq, hq1, hq2⟩ := and510 p
  have hsh := shl64 n.toNat (by omega)
  have hwx : IntKind.i64.wrap ((2 : Int) ^ n.toNat) = ((2 ^ n.toNat : Nat) : Int) := by have := shl_one n.toNat (by omega); rwa [Int.one_mul] at this
  have h2 := two_pow_512 hn0 hn1
  have hor := i64_or_nat q (2 ^ n.toNat) (by omega) (by omega)
  have hcb := bring_bd c 1125899906842624 (by decide)
  have HB := hid fun W => bring_any c 1125899906842624 W c0 c1 (by decide) (by decide)
  have HOK := hid (okJ_may (n := n) (c := bring c 1125899906842624) hq1 hq2 hn0 hn1 hcb.1 (by omega))
  have HCB := hid hcb
  generalize bring c 1125899906842624 = v at *
  obtain ⟨x, hx⟩ : ∃ x, x = 2 ^ n.toNat := ⟨_, rfl⟩
  obtain ⟨o, ho⟩ : ∃ o, o = q ||| x := ⟨_, rfl⟩
  rw [← hx] at hsh hor HOK hwx
  rw [← ho] at hor HOK
  have HO : Hid (bits .or .i64 (q : Int) (IntKind.i64.wrap ((2 : Int) ^ n.toNat)) = (o : Int)) := hid (by rw [hwx]; exact hor)
  clear hwx
  have HN := hid hn
  have HSZ := hid hz
  have HR0 := hid HR
  have HF1 := hid f1
  have r0 := HR.cell 0 rfl
  have r1 := HR.cell 1 rfl
  have r2 := HR.cell 2 rfl
  have y0 := HR.free 0
  have y1 := HR.free 1
  have y2 := HR.free 2
  have HZ0 := hid HZ
  clear hb hcb h2 hq1 hq2 hx ho hn hz s0 s1 p0 p1 c0 c1 HR HZ f1
  go_wp2_with fail
  have hB5 : Fr (fun _ => False) w1 w1 := Fr.refl _ _
  go_region_held3 (fun w' => w'.cell? ⟨z, 1, none⟩ = some (.int .i64 p) ∧ w'.cell? ⟨z, 2, none⟩ = some (.int .i64 c))
    (first | exact ⟨z1, z2⟩ | exact ⟨hZ5.cell 1 rfl, hZ5.cell 2 rfl⟩ | exact ⟨(((hZ5.other hRz _).other hRz _).other hRz _).cell 1 rfl, (((hZ5.other hRz _).other hRz _).other hRz _).cell 2 rfl⟩)
    (first
      | (go_at_call 19; with_reducible refine (HB.out _).mono ?_; rintro e w5 ⟨rfl, rfl⟩)
      | (go_at_call 21; with_reducible refine (join_c _ _ _ _).mono ?_; rintro e w5 ⟨rfl, h5⟩; have h15 : Fr (fun _ => False) w1 w5 := (by first | exact (Fr.refl _ w1).drew.trans h5 | exact h5 | exact (Fr.refl _ w1).drew.drew.trans h5); have hZ5 := HZ0.out.keep h15 (fun h => h); have hR5 := HR0.out.keep h15 (fun h => h); have r0 := hR5.cell 0 rfl; have r1 := hR5.cell 1 rfl; have r2 := hR5.cell 2 rfl; have y0 := hR5.free 0; have y1 := hR5.free 1; have y2 := hR5.free 2))
  simp only [HO.out]
  have hZ6 := (((hR5.set 0 (.int .i64 n)).set 1 (.int .i64 (o : Int))).set 2 (.int .i64 v))
  have q0 := hZ6.cell 0 (v := .int .i64 n) rfl
  have q1 := hZ6.cell 1 (v := .int .i64 (o : Int)) rfl
  have q2 := hZ6.cell 2 (v := .int .i64 v) rfl
  have hf : Fr (fun _ => False) w (((w5.setCell ⟨R, 0, none⟩ (.int .i64 n)).setCell ⟨R, 1, none⟩ (.int .i64 (o : Int))).setCell ⟨R, 2, none⟩ (.int .i64 v)) := (((HF1.out.trans h15).setNew HRW.out _).setNew HRW.out _).setNew HRW.out _
  generalize (((w5.setCell ⟨R, 0, none⟩ (.int .i64 n)).setCell ⟨R, 1, none⟩ (.int .i64 (o : Int))).setCell ⟨R, 2, none⟩ (.int .i64 v)) = w6 at *
  clear r0 r1 r2 y0 y1 y2 hR5 hZ6 hB5 h15 h5 hZ5
  have HK : Hid (IsMay (n, (o : Int), v)) := hid ⟨HOK.out, hn0, hn1, HCB.out.1, by have := HCB.out.2; simp only; omega⟩
  go_wp2
  refine bodyPost_ret (v := .agg #[.int .i64 n, .int .i64 (o : Int), .int .i64 v]) (by simp [results, Try.results20, go_sem, q0, q1, q2]) rfl ⟨(n, (o : Int), v), rfl, HK.out, hf⟩
end Go.Proofs.Ytimfpkiknmnnmaa
