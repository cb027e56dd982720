/-
  WHAT THE REFERENCE's Has, List, Of OF CREWS ANSWER. Conditions: Of: of nodes from 1 to 8.
-/
import Derived.Test.YtecngibenlcdiaaCBit
namespace Go.Proofs.Ytecngibenlcdiaa
open Go.RowKit

theorem rhas_any (c n : Int) (w : World) : Calls Try.prog 57 #[.int .i64 c, .int .i64 n] w fun e w' => e = .returned (.bool (hasV c n)) ∧ w = w' := by
  by_cases h1 : 1 ≤ n
  · by_cases h2 : n ≤ 8
    · obtain ⟨m, rfl⟩ := Int.eq_ofNat_of_zero_le (show 0 ≤ n by omega)
      have hv : hasV c (m : Int) = (bits .and .i64 c ((2 ^ m : Nat) : Int) != 0) := by
        unfold hasV
        rw [has_and c m (by omega) (by omega)]
        simp; omega
      obtain ⟨x, hx⟩ : ∃ x, x = 2 ^ m := ⟨_, rfl⟩
      have HB := hid (bit_any m (by omega) w)
      rw [← hx] at hv HB
      clear hx
      rw [hv]
      have h2' : m ≤ 8 := by omega
      have h1' : 1 ≤ m := by omega
      go_enter Try.func57, Try.ntmps57
      go_wp2_with fail
      refine HB.out.mono ?_
      rintro e w1 ⟨rfl, rfl⟩
      go_wp2_with fail
      go_ret
      exact ⟨rfl, rfl⟩
    · go_enter Try.func57, Try.ntmps57
      go_wp2
      go_ret
      exact ⟨ret_bool (by simp [hasV]; intro h; omega), rfl⟩
  · go_enter Try.func57, Try.ntmps57
    go_wp2
    go_ret
    exact ⟨ret_bool (by simp [hasV]; intro h; omega), rfl⟩

theorem infoInt : (Try.prog.info? 3).map (fun i => (i.zero, i.size, i.bytes)) = some (some (.int .i64 0), 1, 8) := by kernel_rfl
theorem intI : ∃ i, Try.prog.info? 3 = some i ∧ i.zero = some (.int .i64 0) ∧ i.size = 1 ∧ i.bytes = 8 := by
  have := infoInt
  cases h : Try.prog.info? 3 with
  | none => rw [h] at this; simp at this
  | some i => rw [h] at this; simp at this; exact ⟨i, rfl, this.1, this.2.1, this.2.2⟩

def lst (c : Int) : Nat → List Int
  | 0 => []
  | n + 1 => lst c n ++ if hasV c ((n : Int) + 1) then [(n : Int) + 1] else []
theorem lst_len (c : Int) (n : Nat) : (lst c n).length ≤ n := by
  induction n with
  | zero => simp [lst]
  | succ n ih => simp only [lst, List.length_append]; split <;> simp <;> omega

set_option maxRecDepth 100000 in
theorem rlist_any (c : Int) (w : World) : Calls Try.prog 47 #[.int .i64 c] w fun e w' => ∃ v, e = .returned v ∧ w'.ownsRow 0 3 1 v (lst c 8).length ((lst c 8).map (.int .i64)) ∧ Fr (fun _ => False) w w' ∧ Above w.heap.size (footOf v) := by
  obtain ⟨i0, i1, i2, i3, i4⟩ := intI
  go_enter Try.func47, Try.ntmps47
  go_wp2_with fail
  go_loopw [3, 4] (fun v i wr => ∃ n : Nat, n ≤ 8 ∧ i = .int .i64 ((n : Int) + 1) ∧ wr.ownsRow 0 3 1 v (lst c n).length ((lst c n).map (.int .i64)) ∧ Fr (fun _ => False) w wr ∧ Above w.heap.size (footOf v)) (fun _ i _ => 9 - (intOf i).toNat)
  case atStart => exact ⟨0, by omega, rfl, World.ownsRow_nil _ _ _ _, Fr.refl _ _, fun b hb => by simp [footOf, Value.ownBlock] at hb⟩
  case round =>
    obtain ⟨n, hn, rfl, hr, hf, hab⟩ := hrel
    have HR := hid hr
    have HF := hid hf
    have HAB := hid hab
    have HLL := hid (lst_len c n)
    clear hr hf hab
    by_cases hlt : n < 8
    · have HS : Hid (lst c (n + 1) = lst c n ++ if hasV c ((n : Int) + 1) then [(n : Int) + 1] else []) := hid rfl
      go_wp2_with fail
      refine (rhas_any c ((n : Int) + 1) wr).mono ?_
      rintro e w1 ⟨rfl, rfl⟩
      cases hh : hasV c ((n : Int) + 1) with
      | true =>
        rw [hh] at HS
        go_wp2_with (at_builtin; refine wpList_append_row rfl _ _ 44 rfl 3 i0 (.int .i64 0) 1 8 Try.underlying44 i1 i2 i3 i4 rfl (by decide) _ (lst c n).length ((lst c n).map (.int .i64)) rfl (HR.out.alloc _) ⟨wr.heap.size, 0, none⟩ 1 1 [.int .i64 ((n : Int) + 1)] rfl rfl (one_new _ _ _) (one_int _ _) ?c3 ?c4 ?_)
        case c3 => have := HLL.out; unfold maxLen; omega
        case c4 => have := HLL.out; omega
        intro v' w1 hown hfr hgr _
        have hf2 : Fr (fun _ => False) w w1 := (HF.out.alloc _).own hfr HAB.out
        have hz := HF.out.size
        have hab2 : Above w.heap.size (footOf v') := fun b hb => by
          rcases hgr b hb with h | h
          · exact HAB.out b h
          · simp at h; omega
        go_wp2_with fail
        go_roundw
        case rel =>
          refine ⟨n + 1, by omega, by go_num, ?_, hf2, hab2⟩
          rw [HS.out]
          simpa using hown
        case measure => simp [intOf]; omega
      | false =>
        rw [hh] at HS
        go_wp2_with fail
        go_roundw
        case rel =>
          refine ⟨n + 1, by omega, by go_num, ?_, HF.out, HAB.out⟩
          rw [HS.out]
          simpa using HR.out
        case measure => simp [intOf]; omega
    · have hn8 : n = 8 := by omega
      subst hn8
      obtain ⟨ao, cap, hv, _⟩ := row_form HR.out
      go_wp2_with fail
      refine bodyPost_ret (v := u3) (by simp [results, Try.results47, go_sem]) rfl ⟨_, rfl, HR.out, HF.out, HAB.out⟩

def orL : List Int → Nat
  | [] => 0
  | z :: r => 2 ^ z.toNat ||| orL r
theorem orL_bit (zs : List Int) (i : Nat) : (orL zs).testBit i = zs.any fun z => decide (z.toNat = i) := by
  induction zs with
  | nil => simp [orL]
  | cons z r ih => simp only [orL, Nat.testBit_or, Nat.testBit_two_pow, ih, List.any_cons]
theorem orL_snoc (zs : List Int) (z : Int) : orL (zs ++ [z]) = orL zs ||| 2 ^ z.toNat := by
  apply Nat.eq_of_testBit_eq
  intro i
  rw [orL_bit, Nat.testBit_or, orL_bit, Nat.testBit_two_pow]
  simp
theorem orL_lt {zs : List Int} (h : ∀ z ∈ zs, 1 ≤ z ∧ z ≤ 8) : orL zs < 2 ^ 9 := by
  induction zs with
  | nil => simp [orL]
  | cons z r ih => exact Nat.or_lt_two_pow (two_pow_512 (h z (by simp)).1 (h z (by simp)).2) (ih fun y hy => h y (by simp [hy]))
theorem add_all : ((List.range 512).all fun x => (List.range 9).all fun n => x.testBit n || (x + 2 ^ n == x ||| 2 ^ n)) = true := by kernel_rfl
theorem add_or {x n : Nat} (hx : x < 512) (hn : n < 9) (h : x.testBit n = false) : x + 2 ^ n = x ||| 2 ^ n := by
  have := List.all_eq_true.1 (List.all_eq_true.1 add_all x (List.mem_range.2 hx)) n (List.mem_range.2 hn)
  rw [h, Bool.false_or] at this
  exact beq_iff_eq.1 this
theorem or_self {x n : Nat} (h : x.testBit n = true) : x ||| 2 ^ n = x := by
  apply Nat.eq_of_testBit_eq
  intro i
  rw [Nat.testBit_or, Nat.testBit_two_pow]
  by_cases hi : n = i
  · subst hi; simp [h]
  · simp [hi]

set_option maxRecDepth 100000 in
theorem crewOf_any (v : Value) (zs : List Int) (w : World) (hr : w.ownsRow 0 3 1 v zs.length (zs.map (.int .i64))) (hz : ∀ z ∈ zs, 1 ≤ z ∧ z ≤ 8) :
    Calls Try.prog 62 #[v] w fun e w' => e = .returned (.tuple #[.int .i64 ((orL zs : Nat) : Int), .int .i64 0]) ∧ w = w' := by
  obtain ⟨ao, cap, rfl, hl, hm, _, hcell⟩ := row_form hr
  obtain ⟨n, hn⟩ : ∃ n, n = zs.length := ⟨_, rfl⟩
  have HN := hid hn
  rw [← hn] at hl hcell ⊢
  have HC := hid hcell
  have HZ := hid hz
  have hn9 : n ≤ 9223372036854775807 := by unfold maxLen at hm; omega
  clear hr hz hcell hn hm
  go_enter Try.func62, Try.ntmps62
  go_wp2_with fail
  go_loopw [4, 5] (fun x i wr => ∃ k X : Nat, k ≤ n ∧ i = .int .i64 k ∧ x = .int .i64 (X : Int) ∧ X = orL (zs.take k) ∧ w = wr) (fun _ i _ => n - (intOf i).toNat)
  case atStart => exact ⟨0, 0, by omega, rfl, rfl, by simp [orL], rfl⟩
  case round =>
    obtain ⟨k, X, hk, rfl, rfl, hX, rfl⟩ := hrel
    have HX := hid hX
    have hX9 : X < 2 ^ 9 := by rw [hX]; exact orL_lt fun z hz => HZ.out z (List.mem_of_mem_take hz)
    have HX9 := hid hX9
    clear hX hX9
    by_cases hlt : k < n
    · obtain ⟨g, rfl, _, hc, _⟩ := HC.out k hlt
      have hkl : k < zs.length := by rw [← HN.out]; exact hlt
      rw [ints_get hkl] at hc
      have hz := HZ.out (zs.getD k 0) (by rw [getD_of hkl]; exact List.getElem_mem _)
      have HT : Hid (zs.take (k + 1) = zs.take k ++ [zs.getD k 0]) := hid (by rw [List.take_add_one, List.getElem?_eq_getElem hkl, getD_of hkl]; rfl)
      generalize zs.getD k 0 = z at *
      obtain ⟨m, rfl⟩ := Int.eq_ofNat_of_zero_le (show 0 ≤ z by omega)
      have hm1 : 1 ≤ m := by omega
      have hm8 : m ≤ 8 := by omega
      have hz1 := hz.1
      have hz2 := hz.2
      clear hz hkl
      have HH : Hid (hasV (X : Int) (m : Int) = X.testBit m) := hid (by
        have := HX9.out
        unfold hasV
        have e := bit_test X m (by omega)
        simp only [Int.toNat_natCast]
        rw [e]; simp; omega)
      go_wp2_with fail
      refine (rhas_any (X : Int) (m : Int) w).mono ?_
      rintro e w1 ⟨rfl, rfl⟩
      rw [HH.out]
      cases ht : X.testBit m with
      | true =>
        have HE := hid (or_self ht)
        clear ht
        go_wp2_with fail
        go_roundw
        case rel => exact ⟨k + 1, X, by omega, by go_num, rfl, by rw [HT.out, orL_snoc, ← HX.out, Int.toNat_natCast, HE.out], by first | rfl | trivial⟩
        case measure => simp [intOf]; omega
      | false =>
        have HE := hid (add_or HX9.out (by omega) ht)
        obtain ⟨y, hy⟩ : ∃ y, y = 2 ^ m := ⟨_, rfl⟩
        have HY := hid hy
        have HB := hid (bit_any m hm8 w)
        have hyl : y < 512 := by rw [hy]; have := Nat.pow_lt_pow_right (show 1 < 2 by decide) (show m < 9 by omega); simpa using this
        rw [← hy] at HB
        have hxl : X < 512 := HX9.out
        clear ht hy
        go_wp2_with fail
        refine HB.out.mono ?_
        rintro e w2 ⟨rfl, rfl⟩
        go_wp2_with fail
        go_roundw
        case rel => exact ⟨k + 1, X + y, by omega, by go_num, by go_num, by rw [HT.out, orL_snoc, ← HX.out, Int.toNat_natCast, HY.out, HE.out], by first | rfl | trivial⟩
        case measure => simp [intOf]; omega
    · have hkn : k = n := by omega
      have HE : Hid (X = orL zs) := hid (by rw [HX.out, hkn, HN.out, List.take_length])
      clear hkn
      go_wp2_with fail
      go_ret2
      exact ⟨by rw [HE.out]; rfl, rfl⟩
end Go.Proofs.Ytecngibenlcdiaa
