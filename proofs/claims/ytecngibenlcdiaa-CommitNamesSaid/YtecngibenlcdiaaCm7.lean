/-
  WHAT checked, onward, New, Add, Pass, Visit OF commit ANSWER. Conditions: fewer than a hundred entries where they go on.
-/
import Derived.Test.YtecngibenlcdiaaCm6
namespace Go.Proofs.Ytecngibenlcdiaa
open Go.RowKit Go.ChangeShapes Go.WideShapes Go.Deep

set_option linter.unusedSimpArgs false
theorem aggCm : AggT Try.prog 26 5 := ⟨⟨_, Try.underlying26, rfl⟩, by kernel_rfl⟩
theorem zeroCm (W : World) : (zeroValue 26).run Try.prog W = .ok (.agg #[.int .i64 0, .int .i64 0, .int .i64 0, .int .i64 0, .slice none 0 0]) W := by kernel_rfl
def cz : Value := .agg #[.int .i64 0, .int .i64 0, .int .i64 0, .int .i64 0, .slice none 0 0]
/-- What checked answers of a commit. -/
def ans (ok : Bool) (c : Cm) (v : Value) : Value := .tuple #[if ok then cv c v else cz, .int .i64 (if ok then 0 else 2)]
theorem one_cc (s r m h : Int) (ao : Option Addr) (N cap : Nat) : ∀ u ∈ (Value.agg #[.int .i64 s, .int .i64 r, .int .i64 m, .int .i64 h, .slice ao N cap]).cells.toList, u.oneCell' = true := by
  intro u hu
  simp [Value.cells] at hu
  rcases hu with rfl | rfl | rfl | rfl | rfl <;> rfl

set_option maxRecDepth 100000 in
set_option maxHeartbeats 1000000 in
theorem checked_any (c : Cm) (v : Value) (w : World) (hv : IsEs w v c.L) : Calls Try.prog 31 #[cv c v] w fun e w' => e = .returned (ans (okC c) c v) ∧ Fr (fun _ => False) w w' := by
  obtain ⟨ao, cap, rfl, hl1, hl2⟩ := hv.len
  have HC := hid (fun W (f : Fr (fun _ => False) w W) => ccheck_any c (.slice ao c.L.length cap) W (hv.keep0 f))
  unfold ans cz
  cases hok : okC c with
  | true =>
    rw [hok] at HC
    simp only [if_true]
    obtain ⟨s, r, m, h, L⟩ := c
    simp only [cv] at *
    obtain ⟨N, hN⟩ : ∃ N, N = L.length := ⟨_, rfl⟩
    rw [← hN] at HC ⊢
    clear hok hN hv hl1
    have HB0 := Blk.new w #[.int .i64 s, .int .i64 r, .int .i64 m, .int .i64 h, .slice ao N cap] 26
    have HF0 := (Fr.refl (fun _ => False) w).alloc (.cells #[.int .i64 s, .int .i64 r, .int .i64 m, .int .i64 h, .slice ao N cap] 26)
    go_enter Try.func31, Try.ntmps31
    go_wp2_with (refine wpList_new rfl 26 rfl #[.int .i64 0, .int .i64 0, .int .i64 0, .int .i64 0, .slice none 0 0] zeroCm ?_)
    generalize (w.alloc (.cells #[.int .i64 s, .int .i64 r, .int .i64 m, .int .i64 h, .slice ao N cap] 26)) = w0 at *
    generalize hp : w.heap.size = p at *
    intro y w1 hy B1 f1 z1
    have HB1 := HB0.keep f1 (fun h => h)
    have hpy : ¬ y = p := by have := HB0.lt; omega
    have hyw : w.heap.size ≤ y := by have := HB0.lt; omega
    have HF1 := hid (HF0.trans f1)
    have p0 := HB1.cell 0 rfl
    have p1 := HB1.cell 1 rfl
    have p2 := HB1.cell 2 rfl
    have p3 := HB1.cell 3 rfl
    have p4 := HB1.cell 4 rfl
    clear hy z1 f1 HB0 HF0 hp
    go_wp2_with fail
    refine (HC.out _ HF1.out).mono ?_
    rintro e w2 ⟨rfl, f2⟩
    have HB2 := HB1.keep f2 (fun h => h)
    have HY2 := B1.keep f2 (fun h => h)
    have HF2 := hid (HF1.out.trans f2)
    have p0 := HB2.cell 0 rfl
    have p1 := HB2.cell 1 rfl
    have p2 := HB2.cell 2 rfl
    have p3 := HB2.cell 3 rfl
    have p4 := HB2.cell 4 rfl
    clear HC f2 HB1 B1
    go_wp2_with (refine wpList_store_part rfl 26 _ _ rfl aggCm y 0 rfl HY2 (.agg #[.int .i64 s, .int .i64 r, .int .i64 m, .int .i64 h, .slice ao N cap]) rfl rfl (one_cc s r m h ao N cap) (by decide) #[.int .i64 s, .int .i64 r, .int .i64 m, .int .i64 h, .slice ao N cap] rfl ?_)
    intro w3 B3 f3 z3
    have HF3 := hid (HF2.out.into f3 hyw)
    clear p0 p1 p2 p3 p4 HB2 HY2 f3 z3
    go_wp2_with fail
    exact bodyPost_ret (v := .tuple #[.agg #[.int .i64 s, .int .i64 r, .int .i64 m, .int .i64 h, .slice ao N cap], .int .i64 0]) (results_cell_slot rfl _ aggCm rfl B3 rfl _ rfl) rfl ⟨rfl, HF3.out⟩
  | false =>
    rw [hok] at HC
    obtain ⟨s, r, m, h, L⟩ := c
    simp only [cv] at *
    obtain ⟨N, hN⟩ : ∃ N, N = L.length := ⟨_, rfl⟩
    rw [← hN] at HC ⊢
    clear hok hN hv hl1
    have HB0 := Blk.new w #[.int .i64 s, .int .i64 r, .int .i64 m, .int .i64 h, .slice ao N cap] 26
    have HF0 := (Fr.refl (fun _ => False) w).alloc (.cells #[.int .i64 s, .int .i64 r, .int .i64 m, .int .i64 h, .slice ao N cap] 26)
    go_enter Try.func31, Try.ntmps31
    go_wp2_with (refine wpList_new rfl 26 rfl #[.int .i64 0, .int .i64 0, .int .i64 0, .int .i64 0, .slice none 0 0] zeroCm ?_)
    generalize (w.alloc (.cells #[.int .i64 s, .int .i64 r, .int .i64 m, .int .i64 h, .slice ao N cap] 26)) = w0 at *
    generalize hp : w.heap.size = p at *
    intro y w1 hy B1 f1 z1
    have HB1 := HB0.keep f1 (fun h => h)
    have hpy : ¬ y = p := by have := HB0.lt; omega
    have hyw : w.heap.size ≤ y := by have := HB0.lt; omega
    have HF1 := hid (HF0.trans f1)
    have p0 := HB1.cell 0 rfl
    have p1 := HB1.cell 1 rfl
    have p2 := HB1.cell 2 rfl
    have p3 := HB1.cell 3 rfl
    have p4 := HB1.cell 4 rfl
    clear hy z1 f1 HB0 HF0 hp
    go_wp2_with fail
    refine (HC.out _ HF1.out).mono ?_
    rintro e w2 ⟨rfl, f2⟩
    have HY2 := B1.keep f2 (fun h => h)
    have HF2 := hid (HF1.out.trans f2)
    clear HC f2 HB1 B1 p0 p1 p2 p3 p4
    go_wp2_with (refine wpList_store_part rfl 26 _ _ rfl aggCm y 0 rfl HY2 (.agg #[.int .i64 0, .int .i64 0, .int .i64 0, .int .i64 0, .slice none 0 0]) rfl rfl (one_cc 0 0 0 0 none 0 0) (by decide) #[.int .i64 0, .int .i64 0, .int .i64 0, .int .i64 0, .slice none 0 0] rfl ?_)
    intro w3 B3 f3 z3
    have HF3 := hid (HF2.out.into f3 hyw)
    clear HY2 f3 z3
    go_wp2_with fail
    exact bodyPost_ret (v := .tuple #[.agg #[.int .i64 0, .int .i64 0, .int .i64 0, .int .i64 0, .slice none 0 0], .int .i64 2]) (results_cell_slot rfl _ aggCm rfl B3 rfl _ rfl) rfl ⟨rfl, HF3.out⟩

/-! ### onward -/
def more (c : Cm) (M : List Ent) : Cm := ⟨c.s, c.r, c.m, c.h + 1, c.L ++ M⟩
theorem ans_agg (ok : Bool) (c : Cm) (a : Option Addr) (n k : Nat) : ∃ s r m h a' n' k' er, ans ok c (.slice a n k) = .tuple #[.agg #[.int .i64 s, .int .i64 r, .int .i64 m, .int .i64 h, .slice a' n' k'], .int .i64 er] := by
  cases ok
  · exact ⟨_, _, _, _, _, _, _, _, rfl⟩
  · exact ⟨_, _, _, _, _, _, _, _, rfl⟩

set_option maxRecDepth 100000 in
set_option maxHeartbeats 1000000 in
theorem onward_any (c : Cm) (v v2 : Value) (L2 : List Ent) (w : World) (hv : IsEs w v c.L) (hv2 : IsEs w v2 L2) (h0 : 0 < c.L.length) (hm : c.L.length + L2.length ≤ 1000) (hh : 0 ≤ c.h) (hh2 : c.h ≤ 1000) :
    Calls Try.prog 32 #[cv c v, v2] w fun e w' => ∃ v', e = .returned (ans (okC (more c L2)) (more c L2) v') ∧ w'.ownsRow 0 28 6 v' (c.L ++ L2).length (ents (c.L ++ L2)) ∧ Fr (fun _ => False) w w' ∧ Above w.heap.size (footOf v') := by
  obtain ⟨ao, cap, rfl, hl1, hl2⟩ := hv.len
  obtain ⟨bo, cap', rfl, hl3, hl4⟩ := hv2.len
  have HC := hid (fun b W c1 c2 (f : Fr (fun _ => False) w W) => concat_any b _ _ c.L L2 W c1 c2 (hv.keep0 f) (hv2.keep0 f) h0 hm)
  have HK := hid (fun v' W (hr : W.ownsRow 0 28 6 v' (c.L ++ L2).length (ents (c.L ++ L2))) => checked_any (more c L2) v' W (IsEs.of_row hr))
  obtain ⟨s, r, m, h, L⟩ := c
  simp only [cv, more] at *
  obtain ⟨h1, hh1⟩ : ∃ h1, h1 = h + 1 := ⟨_, rfl⟩
  have hw1 : wrap64 (h + 1) = h1 := by rw [hh1]; simp only [wrap64]; omega
  rw [← hh1] at HK ⊢
  obtain ⟨N, hN⟩ : ∃ N, N = L.length := ⟨_, rfl⟩
  obtain ⟨M, hM⟩ : ∃ M, M = L2.length := ⟨_, rfl⟩
  rw [← hN] at HC ⊢
  rw [← hM] at HC ⊢
  generalize (L ++ L2).length = N2 at *
  clear hv hv2 hN hM hl1 hl2 hl3 hl4 h0 hm hh hh2 hh1
  have HB0 := Blk.new w #[.int .i64 s, .int .i64 r, .int .i64 m, .int .i64 h, .slice ao N cap] 26
  have HF0 := (Fr.refl (fun _ => False) w).alloc (.cells #[.int .i64 s, .int .i64 r, .int .i64 m, .int .i64 h, .slice ao N cap] 26)
  go_enter Try.func32, Try.ntmps32
  go_wp2_with (refine wpList_new rfl 26 rfl #[.int .i64 0, .int .i64 0, .int .i64 0, .int .i64 0, .slice none 0 0] zeroCm ?_)
  generalize (w.alloc (.cells #[.int .i64 s, .int .i64 r, .int .i64 m, .int .i64 h, .slice ao N cap] 26)) = w0 at *
  generalize hp : w.heap.size = p at *
  intro y w1 hy B1 f1 z1
  have HB1 := HB0.keep f1 (fun h => h)
  have hpy : ¬ y = p := by have := HB0.lt; omega
  have hpw : w.heap.size ≤ p := by omega
  have hyw : w.heap.size ≤ y := by have := HB0.lt; omega
  have HF1 := hid (HF0.trans f1)
  have p2 := HB1.cell 3 rfl
  have y2 := HB1.free 3
  have p40 : w1.cell? ⟨p, 4, none⟩ = some (.slice ao N cap) := HB1.cell 4 rfl
  clear hy z1 f1 HB0 HF0 hp
  go_wp2_with fail
  have HB2 := HB1.set' 3 (.int .i64 h1) (ds := #[.int .i64 s, .int .i64 r, .int .i64 m, .int .i64 h1, .slice ao N cap]) rfl
  have HY2 := B1.other (p := ⟨p, 3, none⟩) hpy (.int .i64 h1)
  have HF2 := hid (HF1.out.setNew (p := ⟨p, 3, none⟩) hpw (.int .i64 h1))
  have hsz : (w1.setCell ⟨p, 3, none⟩ (.int .i64 h1)).heap.size = w1.heap.size := by simp [World.setCell]
  generalize w1.setCell ⟨p, 3, none⟩ (.int .i64 h1) = w2 at *
  clear HB1 B1 HF1 p2 y2 p40
  have HN2 := hid ((Fr.refl (fun _ => False) w2).alloc (.cells #[.slice ao N cap, .slice bo M cap'] 24))
  have HQ := hid (Blk.new w2 #[.slice ao N cap, .slice bo M cap'] 24)
  rw [hsz] at HQ
  refine (HC.out _ _ (HQ.out.cell 0 rfl) (HQ.out.cell 1 rfl) (HF2.out.trans HN2.out)).mono ?_
  rintro e w3 ⟨v', rfl, hr3, f3, ha3⟩
  have HF3 := hid (HN2.out.trans f3)
  have HB3 := HB2.keep HF3.out (fun h => h)
  have HY3 := HY2.keep HF3.out (fun h => h)
  have HF4 := hid (HF2.out.trans HF3.out)
  have hab : Above w.heap.size (footOf v') := fun k hk => Nat.le_trans (HF2.out.trans HN2.out).size (ha3 k hk)
  have hpl : p < w2.heap.size := HB2.lt
  have hab2 : ∀ k, k ∈ footOf v' → ¬ k = p := fun k hk e => by have := Nat.le_trans HN2.out.size (ha3 k hk); omega
  obtain ⟨ao2, cap2, rfl⟩ := rowN_shape hr3
  have y4 := HB3.free 4
  have p4 : w3.cell? ⟨p, 4, none⟩ = some (.slice ao N cap) := HB3.cell 4 rfl
  have q0 := HB3.cell 0 rfl
  have q1 := HB3.cell 1 rfl
  have q2 := HB3.cell 2 rfl
  have q3 := HB3.cell 3 rfl
  clear f3 ha3 HB2 HY2 HC
  go_wp2_with fail
  have HK4 := HK.out _ _ (row_keep hr3 ((Fr.refl (· = p) w3).set1 4 (.slice ao2 N2 cap2)) hab2)
  have HR4 := hid (row_keep hr3 ((Fr.refl (· = p) w3).set1 4 (.slice ao2 N2 cap2)) hab2)
  have HB4 := HB3.set' 4 (.slice ao2 N2 cap2) (ds := #[.int .i64 s, .int .i64 r, .int .i64 m, .int .i64 h1, .slice ao2 N2 cap2]) rfl
  have HY4 := HY3.other (p := ⟨p, 4, none⟩) hpy (.slice ao2 N2 cap2)
  have HF5 := hid (HF4.out.setNew (p := ⟨p, 4, none⟩) hpw (.slice ao2 N2 cap2))
  generalize w3.setCell ⟨p, 4, none⟩ (.slice ao2 N2 cap2) = w4 at *
  have HKK := hid HK4
  clear hr3 p4 y4 HB3 HY3 HF4 HK4 q0 q1 q2 q3
  refine HKK.out.mono ?_
  rintro e w5 ⟨rfl, f5⟩
  obtain ⟨s', r', m', h', a', n', k', er, ha⟩ := ans_agg (okC ⟨s, r, m, h1, L ++ L2⟩) ⟨s, r, m, h1, L ++ L2⟩ ao2 N2 cap2
  have HA := hid ha
  rw [ha]
  have HY5 := HY4.keep f5 (fun h => h)
  have HF6 := hid (HF5.out.trans f5)
  have HR5 := hid (row_keep HR4.out f5 (fun _ _ h => h))
  clear HB4 ha f5 HKK
  go_wp2_with (refine wpList_store_part rfl 26 _ _ rfl aggCm y 0 rfl HY5 (.agg #[.int .i64 s', .int .i64 r', .int .i64 m', .int .i64 h', .slice a' n' k']) rfl rfl (one_cc s' r' m' h' a' n' k') (by decide) #[.int .i64 s', .int .i64 r', .int .i64 m', .int .i64 h', .slice a' n' k'] rfl ?_)
  intro w6 B6 f6 z6
  have HF7 := hid (HF6.out.into f6 hyw)
  have HR6 := hid (row_keep HR5.out f6 (fun k hk e => by
    obtain ⟨cs, bl⟩ := row_type HR5.out hk
    subst e
    exact absurd (bl.type HY5) (by decide)))
  clear f6 z6
  go_wp2_with fail
  exact bodyPost_ret (v := .tuple #[.agg #[.int .i64 s', .int .i64 r', .int .i64 m', .int .i64 h', .slice a' n' k'], .int .i64 er]) (results_cell_slot rfl _ aggCm rfl B6 rfl _ rfl) rfl ⟨_, by rw [HA.out], HR6.out, HF7.out, hab⟩
end Go.Proofs.Ytecngibenlcdiaa
