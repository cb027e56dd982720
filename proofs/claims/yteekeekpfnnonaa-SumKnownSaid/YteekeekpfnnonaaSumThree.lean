/-
  THE WALK OF THE LAW SumThree. Conditions: at most 2^47 - 4096 bytes each.
-/
import Derived.Test.YteekeekpfnnonaaWorks
import Derived.StillTailTactics
import Derived.Deep.RegionHeld3
namespace Go.Proofs.Yteekeekpfnnonaa
open Go.RowKit

def x3 : List Int → List Int → List Int → Nat → List Int
  | _, _, _, 0 => []
  | a, b, c, n + 1 => x3 a b c n ++ [(((a.getD n 0).toNat ^^^ (b.getD n 0).toNat ^^^ (c.getD n 0).toNat : Nat) : Int)]
theorem x3_len (a b c : List Int) (n : Nat) : (x3 a b c n).length = n := by
  induction n with
  | zero => rfl
  | succ n ih => simp [x3, ih]
theorem x3_byte {a b c : List Int} (ha : AllB a) (hb : AllB b) (hc : AllB c) (n : Nat) : AllB (x3 a b c n) := by
  induction n with
  | zero => exact AllB.nil
  | succ n ih =>
    refine ih.append ?_
    intro z hz
    simp only [List.mem_cons, List.not_mem_nil, or_false] at hz
    subst hz
    have h1 := ha.at n
    have h2 := hb.at n
    have h3 := hc.at n
    have : (a.getD n 0).toNat ^^^ (b.getD n 0).toNat ^^^ (c.getD n 0).toNat < 2 ^ 8 := Nat.xor_lt_two_pow (Nat.xor_lt_two_pow (by omega) (by omega)) (by omega)
    omega
theorem xor3_snoc : ∀ (l m n : List Nat) (a b c : Nat), l.length = m.length → m.length = n.length → xor3 (l ++ [a]) (m ++ [b]) (n ++ [c]) = xor3 l m n ++ [a ^^^ b ^^^ c] := by
  intro l
  induction l with
  | nil => intro m n a b c h1 h2; cases m <;> cases n <;> simp_all [xor3]
  | cons x l ih =>
    intro m n a b c h1 h2
    match m, n, h1, h2 with
    | y :: m, z :: n, h1, h2 => simp only [List.cons_append, xor3]; rw [ih m n a b c (by simpa using h1) (by simpa using h2)]
theorem nb_take_succ (zs : List Int) (j : Nat) (h : j < zs.length) : nb (zs.take (j + 1)) = nb (zs.take j) ++ [(zs.getD j 0).toNat] := by
  rw [List.take_add_one, List.getElem?_eq_getElem h]
  unfold nb
  rw [List.map_append, getD_of h]; rfl
theorem nb_take_len (zs : List Int) (j : Nat) (h : j ≤ zs.length) : (nb (zs.take j)).length = j := by unfold nb; simp; omega
theorem x3_nb (a b c : List Int) : ∀ n, n ≤ a.length → n ≤ b.length → n ≤ c.length → nb (x3 a b c n) = xor3 (nb (a.take n)) (nb (b.take n)) (nb (c.take n)) := by
  intro n
  induction n with
  | zero => intros; simp [x3, nb, xor3]
  | succ n ih =>
    intro h1 h2 h3
    rw [nb_take_succ a n h1, nb_take_succ b n h2, nb_take_succ c n h3, xor3_snoc _ _ _ _ _ _ (by rw [nb_take_len, nb_take_len] <;> omega) (by rw [nb_take_len, nb_take_len] <;> omega), ← ih (by omega) (by omega) (by omega)]
    simp [x3, nb]
theorem x3_crc {a b c : List Int} (ha : AllB a) (hb : AllB b) (hc : AllB c) (n : Nat) (h1 : n ≤ a.length) (h2 : n ≤ b.length) (h3 : n ≤ c.length) :
    crc (nb (a.take n)) ^^^ crc (nb (b.take n)) ^^^ crc (nb (c.take n)) = crc (nb (x3 a b c n)) := by
  have hx := x3_nb a b c n h1 h2 h3
  rw [hx]
  refine crc_three _ _ _ ?_ ?_ (nb_byte (ha.take n)) (nb_byte (hb.take n)) (nb_byte (hc.take n)) ?_
  · rw [nb_take_len a n h1, nb_take_len b n h2]
  · rw [nb_take_len b n h2, nb_take_len c n h3]
  · rw [← hx]; exact nb_byte (x3_byte ha hb hc n)

theorem cell_not {S : Nat → Prop} {w w' : World} {p : Addr} {v : Value} (f : Fr S w w') (hn : ¬ S p.block) (hc : w.cell? p = some v) : w'.cell? p = some v := by
  rw [World.cell?_of_block (f.block p.block (World.block_lt_of_cell? w _ hc) hn)]; exact hc

set_option maxRecDepth 100000 in
set_option maxHeartbeats 4000000 in
theorem three_core (va vb vc : Value) (a b c : List Int) (w : World)
    (ha : Vw .u8 w va a) (hb : Vw .u8 w vb b) (hc : Vw .u8 w vc c) (ba : AllB a) (bb : AllB b) (bC : AllB c) (hl : a.length ≤ 140737488351232) :
    Calls Try.prog 6 #[va, vb, vc] w fun e w' => e = .returned (.bool true) ∧ Fr (fun _ => False) w w' := by
  obtain ⟨i0, i1, i2, i3, i4⟩ := byteI
  have l1 := ha.len
  have l2 := hb.len
  have l3 := hc.len
  obtain ⟨n, hn⟩ : ∃ n, n = min (min a.length b.length) c.length := ⟨_, rfl⟩
  have hn1 : n ≤ a.length := by omega
  have hn2 : n ≤ b.length := by omega
  have hn3 : n ≤ c.length := by omega
  have HD : Hid (n = a.length ∨ n = b.length ∨ n = c.length) := hid (by omega)
  have HT := hid (x3_crc ba bb bC n hn1 hn2 hn3)
  clear hn
  obtain ⟨ao, ac, rfl, a1, a2, a3, a4⟩ := id ha
  obtain ⟨bo, bc, rfl, b1, b2, b3, b4⟩ := id hb
  obtain ⟨co, cc, rfl, c1, c2, c3, c4⟩ := id hc
  have TA := hid (ha.take hn1)
  have TB := hid (hb.take hn2)
  have TC := hid (hc.take hn3)
  have BX := hid (x3_byte ba bb bC)
  have A4 : Hid (∀ i, i < n → _) := hid (fun i hi => a4 i (Nat.lt_of_lt_of_le hi hn1))
  have B4 : Hid (∀ i, i < n → _) := hid (fun i hi => b4 i (Nat.lt_of_lt_of_le hi hn2))
  have C4 : Hid (∀ i, i < n → _) := hid (fun i hi => c4 i (Nat.lt_of_lt_of_le hi hn3))
  have BA := hid ba
  have BB := hid bb
  have BC := hid bC
  have ma : ac ≤ 9223372036854775807 := by unfold maxLen at a2; omega
  have mb : bc ≤ 9223372036854775807 := by unfold maxLen at b2; omega
  have mc : cc ≤ 9223372036854775807 := by unfold maxLen at c2; omega
  clear a4 b4 c4 ha hb hc ba bb bC a2 a3 b2 b3 c2 c3
  generalize a.length = la at *
  generalize b.length = lb at *
  generalize c.length = lc at *
  have hl9 : n ≤ 140737488351232 := by omega
  have m1 : n ≤ ac := by omega
  have m2 : n ≤ bc := by omega
  have m3 : n ≤ cc := by omega
  have HU : Hid (∀ i, i < n → i < la ∧ i < lb ∧ i < lc) := hid (fun i hi => ⟨by omega, by omega, by omega⟩)
  obtain ⟨m, hm⟩ : ∃ m, m = min la lb := ⟨_, rfl⟩
  have hq1 : (if lb < la then (lb : Int) else (la : Int)) = (m : Int) := by split <;> omega
  have hq2 : (if lc < m then (lc : Int) else (m : Int)) = (n : Int) := by have := HD.out; split <;> omega
  have HM := hid hm
  clear hm
  have HA1 : Hid (∀ W, Fr (fun _ => False) w W → Calls Try.prog 10 #[.slice ao n ac] W fun e w' => e = .returned (.int .u32 (crc (nb (a.take n)))) ∧ Fr (fun _ => False) W w') := hid (fun W h => of_any _ _ _ (TA.out.keep0 h) (BA.out.take n))
  have HB1 : Hid (∀ W, Fr (fun _ => False) w W → Calls Try.prog 10 #[.slice bo n bc] W fun e w' => e = .returned (.int .u32 (crc (nb (b.take n)))) ∧ Fr (fun _ => False) W w') := hid (fun W h => of_any _ _ _ (TB.out.keep0 h) (BB.out.take n))
  have HC1 : Hid (∀ W, Fr (fun _ => False) w W → Calls Try.prog 10 #[.slice co n cc] W fun e w' => e = .returned (.int .u32 (crc (nb (c.take n)))) ∧ Fr (fun _ => False) W w') := hid (fun W h => of_any _ _ _ (TC.out.keep0 h) (BC.out.take n))
  go_enter Try.func6, Try.ntmps6
  go_wp2_with fail
  refine (works_any w).mono ?_
  rintro e w1 ⟨rfl, f1⟩
  go_wp2_with fail
  all_goals
    clear hq1 hq2
    go_loopw [8, 9] (fun x i wr => ∃ k : Nat, k ≤ n ∧ i = .int .i64 k ∧ wr.ownsRow 0 5 1 x k ((x3 a b c k).map (.int .u8)) ∧ Above w.heap.size (footOf x) ∧ Fr (fun _ => False) w wr) (fun _ i _ => n - (intOf i).toNat)
    case atStart => exact ⟨0, by omega, rfl, World.ownsRow_nil _ _ _ _, fun k hk => by simp [footOf, Value.ownBlock] at hk, f1⟩
    case round =>
      obtain ⟨k, hk, rfl, hr, hab, hf⟩ := hrel
      by_cases hlt : k < n
      · obtain ⟨u1, u2, u3⟩ := HU.out k hlt
        obtain ⟨p1, o1, rfl, t1, q1⟩ := A4.out k hlt
        obtain ⟨p2, o2, rfl, t2, q2⟩ := B4.out k hlt
        obtain ⟨p3, o3, rfl, t3, q3⟩ := C4.out k hlt
        have hp1 : ¬ p1 ∈ footOf u8 := fun h => by have := hab _ h; omega
        have hp2 : ¬ p2 ∈ footOf u8 := fun h => by have := hab _ h; omega
        have hp3 : ¬ p3 ∈ footOf u8 := fun h => by have := hab _ h; omega
        clear t1 t2 t3
        replace q1 := cell_fr hf q1
        replace q2 := cell_fr hf q2
        replace q3 := cell_fr hf q3
        have z1 := BA.out.at k
        have z2 := BB.out.at k
        have z3 := BC.out.at k
        have HX : Hid (x3 a b c (k + 1) = x3 a b c k ++ [(((a.getD k 0).toNat ^^^ (b.getD k 0).toNat ^^^ (c.getD k 0).toNat : Nat) : Int)]) := hid rfl
        generalize a.getD k 0 = ya at *
        generalize b.getD k 0 = yb at *
        generalize c.getD k 0 = yc at *
        obtain ⟨ya, rfl⟩ := Int.eq_ofNat_of_zero_le z1.1
        obtain ⟨yb, rfl⟩ := Int.eq_ofNat_of_zero_le z2.1
        obtain ⟨yc, rfl⟩ := Int.eq_ofNat_of_zero_le z3.1
        have hy1 : ya < 256 := by omega
        have hy2 : yb < 256 := by omega
        have hy3 : yc < 256 := by omega
        have e1 : bits .xor .u8 (ya : Int) (yb : Int) = ((ya ^^^ yb : Nat) : Int) := u8_xor_nat ya yb hy1 hy2
        have e2 : bits .xor .u8 ((ya ^^^ yb : Nat) : Int) (yc : Int) = ((ya ^^^ yb ^^^ yc : Nat) : Int) := u8_xor_nat (ya ^^^ yb) yc (Nat.xor_lt_two_pow (n := 8) hy1 hy2) hy3
        simp only [Int.toNat_natCast] at HX
        generalize ya ^^^ yb ^^^ yc = X at *
        generalize ya ^^^ yb = Y at *
        clear z1 z2 z3 hy1 hy2 hy3
        have HF := hid hf
        have HR := hid hr
        clear hf hr
        have HR1 : Hid ((wr.drew.alloc (.cells #[.int .u8 (X : Int)] 5)).ownsRow 0 5 1 u8 k ((x3 a b c k).map (.int .u8))) := hid ((show wr.drew.ownsRow 0 5 1 u8 k ((x3 a b c k).map (.int .u8)) from HR.out).alloc _)
        go_wp2_with fail
        go_region_held3 (fun w' => w'.cell? ⟨p1, o1 + k, none⟩ = some (.int .u8 ya) ∧ w'.cell? ⟨p2, o2 + k, none⟩ = some (.int .u8 yb) ∧ w'.cell? ⟨p3, o3 + k, none⟩ = some (.int .u8 yc))
          (first | exact ⟨q1, q2, q3⟩ | exact ⟨cell_fr ((Fr.refl _ wr).drew.alloc _) q1, cell_fr ((Fr.refl _ wr).drew.alloc _) q2, cell_fr ((Fr.refl _ wr).drew.alloc _) q3⟩ | exact ⟨cell_not r2 hp1 (cell_fr ((Fr.refl _ wr).drew.alloc _) q1), cell_not r2 hp2 (cell_fr ((Fr.refl _ wr).drew.alloc _) q2), cell_not r2 hp3 (cell_fr ((Fr.refl _ wr).drew.alloc _) q3)⟩)
          (first
            | (refine step_append_row (by rfl) _ _ 22 (by rfl) 5 i0 (.int .u8 0) 1 1 Try.underlying22 i1 i2 i3 i4 rfl (by decide) u8 k _ (by rfl) HR1.out ⟨wr.heap.size, 0, none⟩ 1 1 [.int .u8 (X : Int)] (by rfl) rfl (one_new' wr.drew _ _ _ rfl) (one_int _ _) (by simp only [maxLen]; omega) (by omega) ?_; intro v' w' r1 r2 r3 _))
        all_goals
          go_wp2_with fail
          go_roundw
          case rel =>
            refine ⟨k + 1, by omega, by go_num, by rw [HX.out, List.map_append]; exact r1, fun b hb => ?_, (HF.out.drew.alloc _).own r2 hab⟩
            rcases r3 b hb with h | h
            · exact hab b h
            · have := HF.out.size; simp at h; omega
          case measure => simp [intOf]; omega
      · have hkn : k = n := by omega
        rw [hkn] at hr
        have hle : n ≤ k := by omega
        have HR := hid hr
        have HAB := hid hab
        have b1 := crc_lt (nb (a.take n))
        have b2 := crc_lt (nb (b.take n))
        have b3 := crc_lt (nb (c.take n))
        have e1 : bits .xor .u32 ((crc (nb (a.take n)) : Nat) : Int) ((crc (nb (b.take n)) : Nat) : Int) = ((crc (nb (a.take n)) ^^^ crc (nb (b.take n)) : Nat) : Int) := u32_xor_nat _ _ b1 b2
        have e2 : bits .xor .u32 ((crc (nb (a.take n)) ^^^ crc (nb (b.take n)) : Nat) : Int) ((crc (nb (c.take n)) : Nat) : Int) = ((crc (nb (x3 a b c n)) : Nat) : Int) := by
          rw [← HT.out]; exact u32_xor_nat _ _ (Nat.xor_lt_two_pow b1 b2) b3
        have hacc : Fr (fun _ => False) w wr.drew := hf.drew
        have hx : Fr (fun _ => False) wr wr.drew := (Fr.refl _ wr).drew
        clear b1 b2 b3 hr hab hf
        have HX1 : Hid (∀ W, Fr (fun _ => False) wr W → Calls Try.prog 10 #[u8] W fun e w' => e = .returned (.int .u32 (crc (nb (x3 a b c n)))) ∧ Fr (fun _ => False) W w') := hid (fun W h => of_any _ _ _ (Vw.of_row (row_keep HR.out h (fun _ _ h => h))) (BX.out n))
        go_wp2_with fail
        go_region_held3 (fun _ => True)
          (first | trivial)
          (first
            | (go_at_call 10; with_reducible refine (HA1.out _ ?hh).mono ?_; (case hh => exact hacc); rintro e w4 ⟨rfl, h4⟩; have hacc := hacc.trans h4; have hx := hx.trans h4)
            | (go_at_call 10; with_reducible refine (HB1.out _ ?hh).mono ?_; (case hh => exact hacc); rintro e w4 ⟨rfl, h4⟩; have hacc := hacc.trans h4; have hx := hx.trans h4)
            | (go_at_call 10; with_reducible refine (HC1.out _ ?hh).mono ?_; (case hh => exact hacc); rintro e w4 ⟨rfl, h4⟩; have hacc := hacc.trans h4; have hx := hx.trans h4)
            | (go_at_call 10; with_reducible refine (HX1.out _ ?hh).mono ?_; (case hh => exact hx); rintro e w4 ⟨rfl, h4⟩; have hacc := hacc.trans h4; have hx := hx.trans h4))
        all_goals
          go_wp2_with fail
          go_ret
          exact ⟨rfl, hacc⟩

theorem isRow_cap {k : IntKind} {w : World} {a : Option Addr} {len cap : Nat} {z : List Int} (hw : IsRow k w a len cap z) : (z.take len).length = len ∧ len ≤ cap := by
  refine ⟨by have := hw.len_le; simp; omega, ?_⟩
  rcases hw with ⟨rfl, rfl, rfl, rfl⟩ | ⟨x, rfl, h1, _⟩
  · exact Nat.le_refl _
  · exact h1
theorem three_walk (a0 : Option Addr) (len0 cap0 : Nat) (z0 : List Int) (a1 : Option Addr) (len1 cap1 : Nat) (z1 : List Int) (a2 : Option Addr) (len2 cap2 : Nat) (z2 : List Int) (w : World)
    (w0 : IsRow .u8 w a0 len0 cap0 z0) (s0 : cap0 * 1 ≤ 140737488351232) (w1 : IsRow .u8 w a1 len1 cap1 z1) (_s1 : cap1 * 1 ≤ 140737488351232) (w2 : IsRow .u8 w a2 len2 cap2 z2) (_s2 : cap2 * 1 ≤ 140737488351232) :
    Calls Try.prog 6 #[.slice a0 len0 cap0, .slice a1 len1 cap1, .slice a2 len2 cap2] w fun e w' => e = .returned (.bool true) ∧ Below w.heap.size w w' := by
  have h0 := isRow_cap w0

  exact (three_core _ _ _ _ _ _ w (Vw.of_is w0) (Vw.of_is w1) (Vw.of_is w2) (AllB.of_is w0) (AllB.of_is w1) (AllB.of_is w2) (by omega)).mono fun e w' h => ⟨h.1, h.2.below (Nat.le_refl _) (fun _ h => h.elim)⟩
end Go.Proofs.Yteekeekpfnnonaa
