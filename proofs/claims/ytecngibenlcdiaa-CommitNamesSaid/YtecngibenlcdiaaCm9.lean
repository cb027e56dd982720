/-
  WHAT New, Add, Pass OF commit ANSWER. Conditions: none.
-/
import Derived.Test.YtecngibenlcdiaaCm8
namespace Go.Proofs.Ytecngibenlcdiaa
open Go.RowKit Go.ChangeShapes Go.WideShapes Go.Deep

set_option linter.unusedSimpArgs false
def RowIs (w : World) (B : Nat) (v : Value) (L : List Ent) : Prop := w.ownsRow 0 28 6 v L.length (ents L) ∧ Above B (footOf v)
def newC (s r m : Int) (x : Ent) : Cm := ⟨s, r, m, 1, [x]⟩

set_option maxRecDepth 100000 in
set_option maxHeartbeats 1000000 in
theorem new_any (s r m : Int) (x : Ent) (w : World) : Calls Try.prog 9 #[.agg #[.int .i64 s, .int .i64 r], .int .i64 m, x.agg] w fun e w' => ∃ v', e = .returned (ans (okC (newC s r m x)) (newC s r m x) v') ∧ RowIs w' w.heap.size v' [x] ∧ Fr (fun _ => False) w w' := by
  obtain ⟨xn, xs, xr, xa, xh, xc⟩ := x
  have HK := hid (fun v' W (hr : W.ownsRow 0 28 6 v' [(⟨xn, xs, xr, xa, xh, xc⟩ : Ent)].length (ents [⟨xn, xs, xr, xa, xh, xc⟩])) => checked_any (newC s r m ⟨xn, xs, xr, xa, xh, xc⟩) v' W (IsEs.of_row hr))
  simp only [newC, Ent.agg, cv] at *
  obtain ⟨B1, B2, f2⟩ := blk2 w #[.int .i64 s, .int .i64 r] #[.int .i64 xn, .int .i64 xs, .int .i64 xr, .int .i64 xa, .int .i64 xh, .int .i64 xc] 23 28
  go_enter Try.func9, Try.ntmps9
  go_wp2_with (refine wpList_new rfl 26 rfl #[.int .i64 0, .int .i64 0, .int .i64 0, .int .i64 0, .slice none 0 0] zeroCm ?_)
  generalize (w.alloc (.cells #[.int .i64 s, .int .i64 r] 23)).alloc (.cells #[.int .i64 xn, .int .i64 xs, .int .i64 xr, .int .i64 xa, .int .i64 xh, .int .i64 xc] 28) = w2 at *
  generalize hq : w.heap.size + 1 = q at *
  generalize hp : w.heap.size = p at *
  intro y w3 hy B3 f3 z3
  have hyw : w.heap.size ≤ y := by have := B2.lt; omega
  have HF3 := hid (f2.trans f3)
  have HE3 := B2.keep f3 (fun h => h)
  have r0 := (B1.keep f3 (fun h => h)).cell 0 rfl
  have r1 := (B1.keep f3 (fun h => h)).cell 1 rfl
  clear hq hp hy z3 f2 f3 B1 B2
  go_wp2_with (first | (refine wpList_load_part rfl 28 _ rfl aggEnt q 0 rfl HE3 #[.int .i64 xn, .int .i64 xs, .int .i64 xr, .int .i64 xa, .int .i64 xh, .int .i64 xc] rfl rfl ?_) | (refine wpList_build_one rfl 24 _ rfl Try.underlying24 aggEnt (by decide) (by decide) zeroEnt #[.int .i64 xn, .int .i64 xs, .int .i64 xr, .int .i64 xa, .int .i64 xh, .int .i64 xc] rfl rfl ?_))
  intro z w4 hz B4 f4 z4
  have hzw : w.heap.size ≤ z := by have := HF3.out.size; omega
  have hyz : ¬ z = y := by have := B3.lt; omega
  have HF4 := hid (HF3.out.trans f4)
  have HY4 := B3.keep f4 (fun h => h)
  have hrow : w4.ownsRow 0 28 6 (.slice (some ⟨z, 0, none⟩) 1 1) [(⟨xn, xs, xr, xa, xh, xc⟩ : Ent)].length (ents [⟨xn, xs, xr, xa, xh, xc⟩]) := ⟨rfl, .inr ⟨z, 1, _, rfl, Nat.zero_le _, B4, by simp, by simp [maxLen], rfl, rfl⟩⟩
  have HR4 := hid hrow
  clear hz z4 f4 B4 B3 hrow r0 r1 HE3
  go_wp2_with fail
  refine (HK.out _ w4 HR4.out).mono ?_
  rintro e w5 ⟨rfl, f5⟩
  obtain ⟨s', r', m', h', a', n', k', er, ha⟩ := ans_agg (okC ⟨s, r, m, 1, [⟨xn, xs, xr, xa, xh, xc⟩]⟩) ⟨s, r, m, 1, [⟨xn, xs, xr, xa, xh, xc⟩]⟩ (some ⟨z, 0, none⟩) 1 1
  have HA := hid ha
  rw [ha]
  have HY5 := HY4.keep f5 (fun h => h)
  have HF5 := hid (HF4.out.trans f5)
  have HR5 := hid (row_keep HR4.out f5 (fun _ _ h => h))
  clear ha f5 HK HY4
  go_wp2_with (refine wpList_store_part rfl 26 _ _ rfl aggCm y 0 rfl HY5 (.agg #[.int .i64 s', .int .i64 r', .int .i64 m', .int .i64 h', .slice a' n' k']) rfl rfl (one_cc s' r' m' h' a' n' k') (by decide) #[.int .i64 s', .int .i64 r', .int .i64 m', .int .i64 h', .slice a' n' k'] rfl ?_)
  intro w6 B6 f6 z6
  have HF6 := hid (HF5.out.into f6 hyw)
  have HR6 := hid (row_keep HR5.out f6 (fun k hk e => by simp [footOf, Value.ownBlock] at hk; omega))
  clear f6 z6
  go_wp2_with fail
  exact bodyPost_ret (v := .tuple #[.agg #[.int .i64 s', .int .i64 r', .int .i64 m', .int .i64 h', .slice a' n' k'], .int .i64 er]) (results_cell_slot rfl _ aggCm rfl B6 rfl _ rfl) rfl ⟨_, by rw [HA.out], ⟨HR6.out, fun k hk => by simp [footOf, Value.ownBlock] at hk; omega⟩, HF6.out⟩

/-! ### Add -/
def addOk (c : Cm) (x : Ent) : Bool := decide (visV c x.n = 1) && okC (more c [x])
theorem visV_ok {c : Cm} {n : Int} (h : visV c n ≠ 0) : okC c = true := by
  cases ho : okC c with
  | true => rfl
  | false => unfold visV at h; rw [ho] at h; simp at h

set_option maxRecDepth 100000 in
set_option maxHeartbeats 1000000 in
theorem add_any (c : Cm) (v : Value) (x : Ent) (w : World) (hv : IsEs w v c.L) : Calls Try.prog 11 #[cv c v, x.agg] w fun e w' => ∃ v', e = .returned (ans (addOk c x) (more c [x]) v') ∧ (addOk c x = true → RowIs w' w.heap.size v' (c.L ++ [x])) ∧ Fr (fun _ => False) w w' := by
  obtain ⟨ao, cap, rfl, hl1, hl2⟩ := hv.len
  have HV := hid (fun W (f : Fr (fun _ => False) w W) => visit_any c (.slice ao c.L.length cap) x.n W (hv.keep0 f))
  have HO := hid (fun v2 W (h0 : 0 < c.L.length) (h1 : c.L.length + [x].length ≤ 1000) (h2 : 0 ≤ c.h) (h3 : c.h ≤ 1000) (f : Fr (fun _ => False) w W) (hv2 : IsEs W v2 [x]) => onward_any c (.slice ao c.L.length cap) v2 [x] W (hv.keep0 f) hv2 h0 h1 h2 h3)
  by_cases h1 : visV c x.n = 1
  · have hok : okC c = true := visV_ok (n := x.n) (by omega)
    have hx : addOk c x = okC (more c [x]) := by unfold addOk; rw [h1]; simp
    have hhd := (okHead_iff c).1 (okC_head' hok)
    have hpos := okC_pos hok
    have hle := okC_le hok
    have hl8 := mem_len c
    rw [h1] at HV
    have HOO := hid (fun v2 W f hv2 => HO.out v2 W hpos (by simp; omega) (by have := hhd.hop0; omega) (by have := hhd.hop1; omega) f hv2)
    rw [hx]
    clear h1 hx hhd hpos hle hl8 HO hok hv
    generalize okC (more c [x]) = okk at *
    generalize more c [x] = c2 at *
    obtain ⟨s, r, m, h, L⟩ := c
    obtain ⟨xn, xs, xr, xa, xh, xc⟩ := x
    simp only [cv, Ent.agg] at *
    obtain ⟨N, hN⟩ : ∃ N, N = L.length := ⟨_, rfl⟩
    rw [← hN] at HV HOO ⊢
    clear hN hl1
    obtain ⟨B1, B2, f2⟩ := blk2 w #[.int .i64 s, .int .i64 r, .int .i64 m, .int .i64 h, .slice ao N cap] #[.int .i64 xn, .int .i64 xs, .int .i64 xr, .int .i64 xa, .int .i64 xh, .int .i64 xc] 26 28
    go_enter Try.func11, Try.ntmps11
    go_wp2_with (refine wpList_new rfl 26 rfl #[.int .i64 0, .int .i64 0, .int .i64 0, .int .i64 0, .slice none 0 0] zeroCm ?_)
    generalize (w.alloc (.cells #[.int .i64 s, .int .i64 r, .int .i64 m, .int .i64 h, .slice ao N cap] 26)).alloc (.cells #[.int .i64 xn, .int .i64 xs, .int .i64 xr, .int .i64 xa, .int .i64 xh, .int .i64 xc] 28) = w2 at *
    generalize hq : w.heap.size + 1 = q at *
    generalize hp : w.heap.size = p at *
    intro y w3 hy B3 f3 z3
    have hyw : w.heap.size ≤ y := by have := B2.lt; omega
    have HF3 := hid (f2.trans f3)
    have HE3 := B2.keep f3 (fun h => h)
    have HC3 := B1.keep f3 (fun h => h)
    have p0 := HC3.cell 0 rfl
    have p1 := HC3.cell 1 rfl
    have p2 := HC3.cell 2 rfl
    have p3 := HC3.cell 3 rfl
    have p4 : w3.cell? ⟨p, 4, none⟩ = some (.slice ao N cap) := HC3.cell 4 rfl
    have e0 := HE3.cell 0 rfl
    clear hq hp hy z3 f2 f3 B1 B2
    go_wp2_with fail
    refine (HV.out _ HF3.out).mono ?_
    rintro e w4 ⟨rfl, f4⟩
    have HF4 := hid (HF3.out.trans f4)
    have HE4 := HE3.keep f4 (fun h => h)
    have HC4 := HC3.keep f4 (fun h => h)
    have HY4 := B3.keep f4 (fun h => h)
    have p0 := HC4.cell 0 rfl
    have p1 := HC4.cell 1 rfl
    have p2 := HC4.cell 2 rfl
    have p3 := HC4.cell 3 rfl
    have p4 : w4.cell? ⟨p, 4, none⟩ = some (.slice ao N cap) := HC4.cell 4 rfl
    clear e0 f4 HE3 HC3 B3 HV
    go_wp2_with (first | (refine wpList_load_part rfl 28 _ rfl aggEnt q 0 rfl HE4 #[.int .i64 xn, .int .i64 xs, .int .i64 xr, .int .i64 xa, .int .i64 xh, .int .i64 xc] rfl rfl ?_) | (refine wpList_build_one rfl 24 _ rfl Try.underlying24 aggEnt (by decide) (by decide) zeroEnt #[.int .i64 xn, .int .i64 xs, .int .i64 xr, .int .i64 xa, .int .i64 xh, .int .i64 xc] rfl rfl ?_))
    intro z w5 hz B5 f5 z5
    have hrow : w5.ownsRow 0 28 6 (.slice (some ⟨z, 0, none⟩) 1 1) [(⟨xn, xs, xr, xa, xh, xc⟩ : Ent)].length (ents [⟨xn, xs, xr, xa, xh, xc⟩]) := ⟨rfl, .inr ⟨z, 1, _, rfl, Nat.zero_le _, B5, by simp, by simp [maxLen], rfl, rfl⟩⟩
    have HR5 := hid (IsEs.of_row hrow)
    have HF5 := hid (HF4.out.trans f5)
    have HY5 := HY4.keep f5 (fun h => h)
    clear hz z5 f5 B5 hrow p0 p1 p2 p3 p4 HE4 HC4 HY4
    go_wp2_with fail
    refine (HOO.out _ w5 HF5.out HR5.out).mono ?_
    rintro e w6 ⟨v', rfl, hr6, f6, ha6⟩
    have HF6 := hid (HF5.out.trans f6)
    have HY6 := HY5.keep f6 (fun h => h)
    have HAB := hid (fun k hk => Nat.le_trans HF5.out.size (ha6 k hk))
    have hnb : ∀ k, k ∈ footOf v' → ¬ k = y := fun k hk e => by have := ha6 k hk; have := HY5.lt; omega
    have HNB := hid hnb
    obtain ⟨ao6, cap6, rfl⟩ := rowN_shape hr6
    have HR6 := hid hr6
    obtain ⟨s', r', m', h', a', n', k', er, ha⟩ := ans_agg okk c2 ao6 (L ++ [(⟨xn, xs, xr, xa, xh, xc⟩ : Ent)]).length cap6
    have HA := hid ha
    rw [ha]
    clear ha f6 hr6 ha6 hnb HY5 HOO
    go_wp2_with (refine wpList_store_part rfl 26 _ _ rfl aggCm y 0 rfl HY6 (.agg #[.int .i64 s', .int .i64 r', .int .i64 m', .int .i64 h', .slice a' n' k']) rfl rfl (one_cc s' r' m' h' a' n' k') (by decide) #[.int .i64 s', .int .i64 r', .int .i64 m', .int .i64 h', .slice a' n' k'] rfl ?_)
    intro w7 B7 f7 z7
    have HF7 := hid (HF6.out.into f7 hyw)
    have HR7 := hid (row_keep HR6.out f7 HNB.out)
    clear f7 z7
    go_wp2_with fail
    exact bodyPost_ret (v := .tuple #[.agg #[.int .i64 s', .int .i64 r', .int .i64 m', .int .i64 h', .slice a' n' k'], .int .i64 er]) (results_cell_slot rfl _ aggCm rfl B7 rfl _ rfl) rfl ⟨_, by rw [HA.out], fun _ => ⟨HR7.out, HAB.out⟩, HF7.out⟩
  · have hx : addOk c x = false := by unfold addOk; rw [decide_eq_false h1]; rfl
    have hne : (visV c x.n != 1) = true := by simp [h1]
    rw [hx]
    clear h1 hx HO hv
    generalize visV c x.n = vv at *
    obtain ⟨s, r, m, h, L⟩ := c
    obtain ⟨xn, xs, xr, xa, xh, xc⟩ := x
    simp only [cv, Ent.agg] at *
    obtain ⟨N, hN⟩ : ∃ N, N = L.length := ⟨_, rfl⟩
    rw [← hN] at HV ⊢
    clear hN hl1
    obtain ⟨B1, B2, f2⟩ := blk2 w #[.int .i64 s, .int .i64 r, .int .i64 m, .int .i64 h, .slice ao N cap] #[.int .i64 xn, .int .i64 xs, .int .i64 xr, .int .i64 xa, .int .i64 xh, .int .i64 xc] 26 28
    go_enter Try.func11, Try.ntmps11
    go_wp2_with (refine wpList_new rfl 26 rfl #[.int .i64 0, .int .i64 0, .int .i64 0, .int .i64 0, .slice none 0 0] zeroCm ?_)
    generalize (w.alloc (.cells #[.int .i64 s, .int .i64 r, .int .i64 m, .int .i64 h, .slice ao N cap] 26)).alloc (.cells #[.int .i64 xn, .int .i64 xs, .int .i64 xr, .int .i64 xa, .int .i64 xh, .int .i64 xc] 28) = w2 at *
    generalize hq : w.heap.size + 1 = q at *
    generalize hp : w.heap.size = p at *
    intro y w3 hy B3 f3 z3
    have hyw : w.heap.size ≤ y := by have := B2.lt; omega
    have HF3 := hid (f2.trans f3)
    have HE3 := B2.keep f3 (fun h => h)
    have HC3 := B1.keep f3 (fun h => h)
    have p0 := HC3.cell 0 rfl
    have p1 := HC3.cell 1 rfl
    have p2 := HC3.cell 2 rfl
    have p3 := HC3.cell 3 rfl
    have p4 : w3.cell? ⟨p, 4, none⟩ = some (.slice ao N cap) := HC3.cell 4 rfl
    have e0 := HE3.cell 0 rfl
    clear hq hp hy z3 f2 f3 B1 B2
    go_wp2_with fail
    refine (HV.out _ HF3.out).mono ?_
    rintro e w4 ⟨rfl, f4⟩
    have HF4 := hid (HF3.out.trans f4)
    have HY4 := B3.keep f4 (fun h => h)
    clear e0 f4 HE3 HC3 B3 HV p0 p1 p2 p3 p4
    go_wp2_with (refine wpList_store_part rfl 26 _ _ rfl aggCm y 0 rfl HY4 (.agg #[.int .i64 0, .int .i64 0, .int .i64 0, .int .i64 0, .slice none 0 0]) rfl rfl (one_cc 0 0 0 0 none 0 0) (by decide) #[.int .i64 0, .int .i64 0, .int .i64 0, .int .i64 0, .slice none 0 0] rfl ?_)
    intro w5 B5 f5 z5
    have HF5 := hid (HF4.out.into f5 hyw)
    clear f5 z5
    go_wp2_with fail
    exact bodyPost_ret (v := .tuple #[.agg #[.int .i64 0, .int .i64 0, .int .i64 0, .int .i64 0, .slice none 0 0], .int .i64 2]) (results_cell_slot rfl _ aggCm rfl B5 rfl _ rfl) rfl ⟨.slice none 0 0, rfl, (fun h => by cases h), HF5.out⟩

/-! ### Pass -/
def passOk (c : Cm) : Bool := okC c && decide (((mem c).length : Int) ≤ c.h) && okC (more c [])

set_option maxRecDepth 100000 in
set_option maxHeartbeats 1000000 in
theorem pass_any (c : Cm) (v : Value) (w : World) (hv : IsEs w v c.L) : Calls Try.prog 13 #[cv c v] w fun e w' => ∃ v', e = .returned (ans (passOk c) (more c []) v') ∧ (passOk c = true → RowIs w' w.heap.size v' c.L) ∧ Fr (fun _ => False) w w' := by
  obtain ⟨ao, cap, rfl, hl1, hl2⟩ := hv.len
  have HC := hid (fun W (f : Fr (fun _ => False) w W) => ccheck_any c (.slice ao c.L.length cap) W (hv.keep0 f))
  have HO := hid (fun W (h0 : 0 < c.L.length) (h1 : c.L.length + ([] : List Ent).length ≤ 1000) (h2 : 0 ≤ c.h) (h3 : c.h ≤ 1000) (f : Fr (fun _ => False) w W) => onward_any c (.slice ao c.L.length cap) (.slice none 0 0) [] W (hv.keep0 f) (IsEs.nil W) h0 h1 h2 h3)
  have HN := hid (fun W => count_any c.m W)
  cases hok : okC c with
  | false =>
    have HP : Hid (passOk c = false) := hid (by unfold passOk; rw [hok]; rfl)
    rw [hok] at HC
    clear hok HO HN hv
    generalize passOk c = po at *
    obtain ⟨s, r, m, h, L⟩ := c
    simp only [cv] at *
    obtain ⟨N, hN⟩ : ∃ N, N = L.length := ⟨_, rfl⟩
    rw [← hN] at HC ⊢
    clear hN hl1
    have HB0 := Blk.new w #[.int .i64 s, .int .i64 r, .int .i64 m, .int .i64 h, .slice ao N cap] 26
    have HF0 := (Fr.refl (fun _ => False) w).alloc (.cells #[.int .i64 s, .int .i64 r, .int .i64 m, .int .i64 h, .slice ao N cap] 26)
    go_enter Try.func13, Try.ntmps13
    go_wp2_with (refine wpList_new rfl 26 rfl #[.int .i64 0, .int .i64 0, .int .i64 0, .int .i64 0, .slice none 0 0] zeroCm ?_)
    generalize (w.alloc (.cells #[.int .i64 s, .int .i64 r, .int .i64 m, .int .i64 h, .slice ao N cap] 26)) = w0 at *
    generalize hp : w.heap.size = p at *
    intro y w1 hy B1 f1 z1
    have HB1 : Hid (Blk w1 p #[.int .i64 s, .int .i64 r, .int .i64 m, .int .i64 h, .slice ao N cap] 26) := hid (Blk.keep (S := fun _ => False) HB0 f1 (fun h => h))
    have hyw : w.heap.size ≤ y := by have := HB0.lt; omega
    have HF1 := hid (HF0.trans f1)
    have PS : Hid (∀ W, Fr (fun _ => False) w1 W → W.cell? ⟨p, 0, none⟩ = some (.int .i64 s) ∧ W.cell? ⟨p, 1, none⟩ = some (.int .i64 r) ∧ W.cell? ⟨p, 2, none⟩ = some (.int .i64 m) ∧ W.cell? ⟨p, 3, none⟩ = some (.int .i64 h) ∧ W.cell? ⟨p, 4, none⟩ = some (.slice ao N cap)) := hid (fun W f => by
      have hb := HB1.out.keep f (fun h => h)
      exact ⟨hb.cell 0 rfl, hb.cell 1 rfl, hb.cell 2 rfl, hb.cell 3 rfl, hb.cell 4 rfl⟩)
    clear hy z1 f1 HB0 HF0 hp
    go_wp2_with fail
    refine wp_region_held_drew (S := fun w' => w'.cell? ⟨p, 0, none⟩ = some (.int .i64 s) ∧ w'.cell? ⟨p, 1, none⟩ = some (.int .i64 r) ∧ w'.cell? ⟨p, 2, none⟩ = some (.int .i64 m) ∧ w'.cell? ⟨p, 3, none⟩ = some (.int .i64 h) ∧ w'.cell? ⟨p, 4, none⟩ = some (.slice ao N cap)) (by kernel_rfl) (PS.out _ (Fr.refl _ _).drew) (fun hHeld => ?_)
    refine wpAnyH_take (i := 0) (v := ?_) rfl (by kernel_rfl) (by kernel_rfl) (by kernel_rfl) (fun _ _ _ h => h) (Or.inl ⟨by rfl, ?_⟩) hHeld ?_
    rotate_left 1
    · (intro w hSw; (try dsimp only at hSw); go_simp <;> with_reducible rfl)
    try simp only [Act.put, List.setIfInBounds_toArray, List.set_cons_zero, List.set_cons_succ, List.getElem_toArray, List.getElem_cons_succ, List.getElem_cons_zero]
    refine wpAnyH_ready (rs := [1]) (by kernel_rfl) (by simp) ?_
    refine AllReadyH.cons rfl (fun K hK => ?_) AllReadyH.nil
    clear hHeld
    go_simp
    go_at_call 16
    refine (HC.out _ (HF1.out.trans (Fr.refl _ _).drew)).mono ?_
    rintro e w3 ⟨rfl, f3⟩
    have hacc := (Fr.refl (fun _ => False) w1).drew.trans f3
    clear f3
    refine hK.out _ _ (PS.out _ hacc) (fun hHeld => ?_)
    clear hK K
    try simp only [Act.put, List.setIfInBounds_toArray, List.set_cons_zero, List.set_cons_succ, List.getElem_toArray, List.getElem_cons_succ, List.getElem_cons_zero]
    refine wpAnyH_take (i := 2) (v := ?_) rfl (by kernel_rfl) (by kernel_rfl) (by kernel_rfl) (fun _ _ _ h => h) (Or.inl ⟨by rfl, ?_⟩) hHeld ?_
    rotate_left 1
    · (intro w hSw; (try dsimp only at hSw); go_simp <;> with_reducible rfl)
    try simp only [Act.put, List.setIfInBounds_toArray, List.set_cons_zero, List.set_cons_succ, List.getElem_toArray, List.getElem_cons_succ, List.getElem_cons_zero]
    refine wpAnyH_take (i := 3) (v := ?_) rfl (by kernel_rfl) (by kernel_rfl) (by kernel_rfl) (fun _ _ _ h => h) (Or.inl ⟨by rfl, ?_⟩) hHeld ?_
    rotate_left 1
    · (intro w hSw; (try dsimp only at hSw); go_simp <;> with_reducible rfl)
    try simp only [Act.put, List.setIfInBounds_toArray, List.set_cons_zero, List.set_cons_succ, List.getElem_toArray, List.getElem_cons_succ, List.getElem_cons_zero]
    refine wpAnyH_take (i := 4) (v := undef) rfl (by kernel_rfl) (by kernel_rfl) (by kernel_rfl) (fun _ _ _ h => h) (Or.inr ⟨by rfl, rfl⟩) hHeld ?_
    try simp only [Act.put, List.setIfInBounds_toArray, List.set_cons_zero, List.set_cons_succ, List.getElem_toArray, List.getElem_cons_succ, List.getElem_cons_zero]
    refine wpAnyH_take (i := 5) (v := undef) rfl (by kernel_rfl) (by kernel_rfl) (by kernel_rfl) (fun _ _ _ h => h) (Or.inr ⟨by rfl, rfl⟩) hHeld ?_
    try simp only [Act.put, List.setIfInBounds_toArray, List.set_cons_zero, List.set_cons_succ, List.getElem_toArray, List.getElem_cons_succ, List.getElem_cons_zero]
    refine wpAnyH_take (i := 6) (v := undef) rfl (by kernel_rfl) (by kernel_rfl) (by kernel_rfl) (fun _ _ _ h => h) (Or.inr ⟨by rfl, rfl⟩) hHeld ?_
    try simp only [Act.put, List.setIfInBounds_toArray, List.set_cons_zero, List.set_cons_succ, List.getElem_toArray, List.getElem_cons_succ, List.getElem_cons_zero]
    refine wpAnyH_take (i := 7) (v := undef) rfl (by kernel_rfl) (by kernel_rfl) (by kernel_rfl) (fun _ _ _ h => h) (Or.inr ⟨by rfl, rfl⟩) hHeld ?_
    try simp only [Act.put, List.setIfInBounds_toArray, List.set_cons_zero, List.set_cons_succ, List.getElem_toArray, List.getElem_cons_succ, List.getElem_cons_zero]
    refine wpAnyH_take (i := 8) (v := undef) rfl (by kernel_rfl) (by kernel_rfl) (by kernel_rfl) (fun _ _ _ h => h) (Or.inr ⟨by rfl, rfl⟩) hHeld ?_
    try simp only [Act.put, List.setIfInBounds_toArray, List.set_cons_zero, List.set_cons_succ, List.getElem_toArray, List.getElem_cons_succ, List.getElem_cons_zero]
    refine wpAnyH_take (i := 9) (v := undef) rfl (by kernel_rfl) (by kernel_rfl) (by kernel_rfl) (fun _ _ _ h => h) (Or.inr ⟨by rfl, rfl⟩) hHeld ?_
    try simp only [Act.put, List.setIfInBounds_toArray, List.set_cons_zero, List.set_cons_succ, List.getElem_toArray, List.getElem_cons_succ, List.getElem_cons_zero]
    refine wpAnyH_take (i := 10) (v := ?_) rfl (by kernel_rfl) (by kernel_rfl) (by kernel_rfl) (fun _ _ _ h => h) (Or.inl ⟨by rfl, ?_⟩) hHeld ?_
    rotate_left 1
    · (intro w hSw; (try dsimp only at hSw); go_simp <;> with_reducible rfl)
    try simp only [Act.put, List.setIfInBounds_toArray, List.set_cons_zero, List.set_cons_succ, List.getElem_toArray, List.getElem_cons_succ, List.getElem_cons_zero]
    refine wpAnyH_done (by kernel_rfl) ?_ _
    clear hHeld
    have HY2 := B1.keep hacc (fun h => h)
    have HF2 := hid (HF1.out.trans hacc)
    go_wp2_with (refine wpList_store_part rfl 26 _ _ rfl aggCm y 0 rfl HY2 (.agg #[.int .i64 0, .int .i64 0, .int .i64 0, .int .i64 0, .slice none 0 0]) rfl rfl (one_cc 0 0 0 0 none 0 0) (by decide) #[.int .i64 0, .int .i64 0, .int .i64 0, .int .i64 0, .slice none 0 0] rfl ?_)
    intro w5 B5 f5 z5
    have HF3 := hid (HF2.out.into f5 hyw)
    go_wp2_with fail
    exact bodyPost_ret (v := .tuple #[.agg #[.int .i64 0, .int .i64 0, .int .i64 0, .int .i64 0, .slice none 0 0], .int .i64 2]) (results_cell_slot rfl _ aggCm rfl B5 rfl _ rfl) rfl ⟨.slice none 0 0, by rw [HP.out]; rfl, (fun h => by rw [HP.out] at h; cases h), HF3.out⟩
  | true =>
    have hmem : mem c = lst c.m 8 := by unfold mem; rw [okC_mem hok]; rfl
    rw [← hmem] at HN
    have hl8 := mem_len c
    by_cases hlt : c.h < ((mem c).length : Int)
    · have HP : Hid (passOk c = false) := hid (by unfold passOk; rw [decide_eq_false (by omega), Bool.and_false]; rfl)
      rw [hok] at HC
      have hd : decide (c.h < ((mem c).length : Int)) = true := decide_eq_true hlt
      clear hok HO hv hmem hlt
      generalize passOk c = po at *
      generalize mem c = l at *
      generalize l.length = n at *
      obtain ⟨s, r, m, h, L⟩ := c
      simp only [cv] at *
      obtain ⟨N, hN⟩ : ∃ N, N = L.length := ⟨_, rfl⟩
      rw [← hN] at HC ⊢
      clear hN hl1
      have HB0 := Blk.new w #[.int .i64 s, .int .i64 r, .int .i64 m, .int .i64 h, .slice ao N cap] 26
      have HF0 := (Fr.refl (fun _ => False) w).alloc (.cells #[.int .i64 s, .int .i64 r, .int .i64 m, .int .i64 h, .slice ao N cap] 26)
      go_enter Try.func13, Try.ntmps13
      go_wp2_with (refine wpList_new rfl 26 rfl #[.int .i64 0, .int .i64 0, .int .i64 0, .int .i64 0, .slice none 0 0] zeroCm ?_)
      generalize (w.alloc (.cells #[.int .i64 s, .int .i64 r, .int .i64 m, .int .i64 h, .slice ao N cap] 26)) = w0 at *
      generalize hp : w.heap.size = p at *
      intro y w1 hy B1 f1 z1
      have HB1 : Hid (Blk w1 p #[.int .i64 s, .int .i64 r, .int .i64 m, .int .i64 h, .slice ao N cap] 26) := hid (Blk.keep (S := fun _ => False) HB0 f1 (fun h => h))
      have hyw : w.heap.size ≤ y := by have := HB0.lt; omega
      have HF1 := hid (HF0.trans f1)
      have PS : Hid (∀ W, Fr (fun _ => False) w1 W → W.cell? ⟨p, 0, none⟩ = some (.int .i64 s) ∧ W.cell? ⟨p, 1, none⟩ = some (.int .i64 r) ∧ W.cell? ⟨p, 2, none⟩ = some (.int .i64 m) ∧ W.cell? ⟨p, 3, none⟩ = some (.int .i64 h) ∧ W.cell? ⟨p, 4, none⟩ = some (.slice ao N cap)) := hid (fun W f => by
        have hb := HB1.out.keep f (fun h => h)
        exact ⟨hb.cell 0 rfl, hb.cell 1 rfl, hb.cell 2 rfl, hb.cell 3 rfl, hb.cell 4 rfl⟩)
      clear hy z1 f1 HB0 HF0 hp
      go_wp2_with fail
      refine wp_region_held_drew (S := fun w' => w'.cell? ⟨p, 0, none⟩ = some (.int .i64 s) ∧ w'.cell? ⟨p, 1, none⟩ = some (.int .i64 r) ∧ w'.cell? ⟨p, 2, none⟩ = some (.int .i64 m) ∧ w'.cell? ⟨p, 3, none⟩ = some (.int .i64 h) ∧ w'.cell? ⟨p, 4, none⟩ = some (.slice ao N cap)) (by kernel_rfl) (PS.out _ (Fr.refl _ _).drew) (fun hHeld => ?_)
      refine wpAnyH_take (i := 0) (v := ?_) rfl (by kernel_rfl) (by kernel_rfl) (by kernel_rfl) (fun _ _ _ h => h) (Or.inl ⟨by rfl, ?_⟩) hHeld ?_
      rotate_left 1
      · (intro w hSw; (try dsimp only at hSw); go_simp <;> with_reducible rfl)
      try simp only [Act.put, List.setIfInBounds_toArray, List.set_cons_zero, List.set_cons_succ, List.getElem_toArray, List.getElem_cons_succ, List.getElem_cons_zero]
      refine wpAnyH_ready (rs := [1]) (by kernel_rfl) (by simp) ?_
      refine AllReadyH.cons rfl (fun K hK => ?_) AllReadyH.nil
      clear hHeld
      go_simp
      go_at_call 16
      refine (HC.out _ (HF1.out.trans (Fr.refl _ _).drew)).mono ?_
      rintro e w3 ⟨rfl, f3⟩
      have hacc := (Fr.refl (fun _ => False) w1).drew.trans f3
      clear f3
      refine hK.out _ _ (PS.out _ hacc) (fun hHeld => ?_)
      clear hK K
      try simp only [Act.put, List.setIfInBounds_toArray, List.set_cons_zero, List.set_cons_succ, List.getElem_toArray, List.getElem_cons_succ, List.getElem_cons_zero]
      refine wpAnyH_take (i := 2) (v := ?_) rfl (by kernel_rfl) (by kernel_rfl) (by kernel_rfl) (fun _ _ _ h => h) (Or.inl ⟨by rfl, ?_⟩) hHeld ?_
      rotate_left 1
      · (intro w hSw; (try dsimp only at hSw); go_simp <;> with_reducible rfl)
      try simp only [Act.put, List.setIfInBounds_toArray, List.set_cons_zero, List.set_cons_succ, List.getElem_toArray, List.getElem_cons_succ, List.getElem_cons_zero]
      refine wpAnyH_take (i := 3) (v := ?_) rfl (by kernel_rfl) (by kernel_rfl) (by kernel_rfl) (fun _ _ _ h => h) (Or.inl ⟨by rfl, ?_⟩) hHeld ?_
      rotate_left 1
      · (intro w hSw; (try dsimp only at hSw); go_simp <;> with_reducible rfl)
      try simp only [Act.put, List.setIfInBounds_toArray, List.set_cons_zero, List.set_cons_succ, List.getElem_toArray, List.getElem_cons_succ, List.getElem_cons_zero]
      refine wpAnyH_take (i := 4) (v := ?_) rfl (by kernel_rfl) (by kernel_rfl) (by kernel_rfl) (fun _ _ _ h => h) (Or.inl ⟨by rfl, ?_⟩) hHeld ?_
      rotate_left 1
      · (intro w hSw; (try dsimp only at hSw); go_simp <;> with_reducible rfl)
      try simp only [Act.put, List.setIfInBounds_toArray, List.set_cons_zero, List.set_cons_succ, List.getElem_toArray, List.getElem_cons_succ, List.getElem_cons_zero]
      refine wpAnyH_take (i := 5) (v := ?_) rfl (by kernel_rfl) (by kernel_rfl) (by kernel_rfl) (fun _ _ _ h => h) (Or.inl ⟨by rfl, ?_⟩) hHeld ?_
      rotate_left 1
      · (intro w hSw; (try dsimp only at hSw); go_simp <;> with_reducible rfl)
      try simp only [Act.put, List.setIfInBounds_toArray, List.set_cons_zero, List.set_cons_succ, List.getElem_toArray, List.getElem_cons_succ, List.getElem_cons_zero]
      refine wpAnyH_take (i := 6) (v := ?_) rfl (by kernel_rfl) (by kernel_rfl) (by kernel_rfl) (fun _ _ _ h => h) (Or.inl ⟨by rfl, ?_⟩) hHeld ?_
      rotate_left 1
      · (intro w hSw; (try dsimp only at hSw); go_simp <;> with_reducible rfl)
      try simp only [Act.put, List.setIfInBounds_toArray, List.set_cons_zero, List.set_cons_succ, List.getElem_toArray, List.getElem_cons_succ, List.getElem_cons_zero]
      refine wpAnyH_take (i := 7) (v := ?_) rfl (by kernel_rfl) (by kernel_rfl) (by kernel_rfl) (fun _ _ _ h => h) (Or.inl ⟨by rfl, ?_⟩) hHeld ?_
      rotate_left 1
      · (intro w hSw; (try dsimp only at hSw); go_simp <;> with_reducible rfl)
      try simp only [Act.put, List.setIfInBounds_toArray, List.set_cons_zero, List.set_cons_succ, List.getElem_toArray, List.getElem_cons_succ, List.getElem_cons_zero]
      refine wpAnyH_ready (rs := [8]) (by kernel_rfl) (by simp) ?_
      refine AllReadyH.cons rfl (fun K hK => ?_) AllReadyH.nil
      clear hHeld
      go_simp
      go_at_call 28
      refine (HN.out _).mono ?_
      rintro e w4 ⟨rfl, rfl⟩
      refine hK.out _ _ (PS.out _ hacc) (fun hHeld => ?_)
      clear hK K
      try simp only [Act.put, List.setIfInBounds_toArray, List.set_cons_zero, List.set_cons_succ, List.getElem_toArray, List.getElem_cons_succ, List.getElem_cons_zero]
      refine wpAnyH_take (i := 9) (v := ?_) rfl (by kernel_rfl) (by kernel_rfl) (by kernel_rfl) (fun _ _ _ h => h) (Or.inl ⟨by rfl, ?_⟩) hHeld ?_
      rotate_left 1
      · (intro w hSw; (try dsimp only at hSw); go_simp <;> with_reducible rfl)
      try simp only [Act.put, List.setIfInBounds_toArray, List.set_cons_zero, List.set_cons_succ, List.getElem_toArray, List.getElem_cons_succ, List.getElem_cons_zero]
      refine wpAnyH_take (i := 10) (v := ?_) rfl (by kernel_rfl) (by kernel_rfl) (by kernel_rfl) (fun _ _ _ h => h) (Or.inl ⟨by rfl, ?_⟩) hHeld ?_
      rotate_left 1
      · (intro w hSw; (try dsimp only at hSw); go_simp <;> with_reducible rfl)
      try simp only [Act.put, List.setIfInBounds_toArray, List.set_cons_zero, List.set_cons_succ, List.getElem_toArray, List.getElem_cons_succ, List.getElem_cons_zero]
      refine wpAnyH_done (by kernel_rfl) ?_ _
      clear hHeld
      have HY2 := B1.keep hacc (fun h => h)
      have HF2 := hid (HF1.out.trans hacc)
      go_wp2_with (refine wpList_store_part rfl 26 _ _ rfl aggCm y 0 rfl HY2 (.agg #[.int .i64 0, .int .i64 0, .int .i64 0, .int .i64 0, .slice none 0 0]) rfl rfl (one_cc 0 0 0 0 none 0 0) (by decide) #[.int .i64 0, .int .i64 0, .int .i64 0, .int .i64 0, .slice none 0 0] rfl ?_)
      intro w5 B5 f5 z5
      have HF3 := hid (HF2.out.into f5 hyw)
      go_wp2_with fail
      exact bodyPost_ret (v := .tuple #[.agg #[.int .i64 0, .int .i64 0, .int .i64 0, .int .i64 0, .slice none 0 0], .int .i64 2]) (results_cell_slot rfl _ aggCm rfl B5 rfl _ rfl) rfl ⟨.slice none 0 0, by rw [HP.out]; rfl, (fun h => by rw [HP.out] at h; cases h), HF3.out⟩
    · have hhd := (okHead_iff c).1 (okC_head' hok)
      have hpos := okC_pos hok
      have hle := okC_le hok
      have HOO := hid (fun W f => HO.out W hpos (by simp; omega) (by have := hhd.hop0; omega) (by have := hhd.hop1; omega) f)
      have hx : passOk c = okC (more c []) := by unfold passOk; rw [hok, decide_eq_true (by omega)]; simp
      rw [hok] at HC
      have hd : decide (c.h < ((mem c).length : Int)) = false := decide_eq_false hlt
      rw [hx]
      clear hok HO hv hmem hlt hx hhd hpos hle
      generalize okC (more c []) = okk at *
      generalize more c [] = c2 at *
      generalize mem c = l at *
      generalize l.length = n at *
      obtain ⟨s, r, m, h, L⟩ := c
      simp only [cv, List.append_nil] at *
      obtain ⟨N, hN⟩ : ∃ N, N = L.length := ⟨_, rfl⟩
      rw [← hN] at HC HOO ⊢
      have HNL := hid hN
      clear hl1 hN
      have HB0 := Blk.new w #[.int .i64 s, .int .i64 r, .int .i64 m, .int .i64 h, .slice ao N cap] 26
      have HF0 := (Fr.refl (fun _ => False) w).alloc (.cells #[.int .i64 s, .int .i64 r, .int .i64 m, .int .i64 h, .slice ao N cap] 26)
      go_enter Try.func13, Try.ntmps13
      go_wp2_with (refine wpList_new rfl 26 rfl #[.int .i64 0, .int .i64 0, .int .i64 0, .int .i64 0, .slice none 0 0] zeroCm ?_)
      generalize (w.alloc (.cells #[.int .i64 s, .int .i64 r, .int .i64 m, .int .i64 h, .slice ao N cap] 26)) = w0 at *
      generalize hp : w.heap.size = p at *
      intro y w1 hy B1 f1 z1
      have HB1 : Hid (Blk w1 p #[.int .i64 s, .int .i64 r, .int .i64 m, .int .i64 h, .slice ao N cap] 26) := hid (Blk.keep (S := fun _ => False) HB0 f1 (fun h => h))
      have hyw : w.heap.size ≤ y := by have := HB0.lt; omega
      have HF1 := hid (HF0.trans f1)
      have PS : Hid (∀ W, Fr (fun _ => False) w1 W → W.cell? ⟨p, 0, none⟩ = some (.int .i64 s) ∧ W.cell? ⟨p, 1, none⟩ = some (.int .i64 r) ∧ W.cell? ⟨p, 2, none⟩ = some (.int .i64 m) ∧ W.cell? ⟨p, 3, none⟩ = some (.int .i64 h) ∧ W.cell? ⟨p, 4, none⟩ = some (.slice ao N cap)) := hid (fun W f => by
        have hb := HB1.out.keep f (fun h => h)
        exact ⟨hb.cell 0 rfl, hb.cell 1 rfl, hb.cell 2 rfl, hb.cell 3 rfl, hb.cell 4 rfl⟩)
      clear hy z1 f1 HB0 HF0 hp
      go_wp2_with fail
      refine wp_region_held_drew (S := fun w' => w'.cell? ⟨p, 0, none⟩ = some (.int .i64 s) ∧ w'.cell? ⟨p, 1, none⟩ = some (.int .i64 r) ∧ w'.cell? ⟨p, 2, none⟩ = some (.int .i64 m) ∧ w'.cell? ⟨p, 3, none⟩ = some (.int .i64 h) ∧ w'.cell? ⟨p, 4, none⟩ = some (.slice ao N cap)) (by kernel_rfl) (PS.out _ (Fr.refl _ _).drew) (fun hHeld => ?_)
      refine wpAnyH_take (i := 0) (v := ?_) rfl (by kernel_rfl) (by kernel_rfl) (by kernel_rfl) (fun _ _ _ h => h) (Or.inl ⟨by rfl, ?_⟩) hHeld ?_
      rotate_left 1
      · (intro w hSw; (try dsimp only at hSw); go_simp <;> with_reducible rfl)
      try simp only [Act.put, List.setIfInBounds_toArray, List.set_cons_zero, List.set_cons_succ, List.getElem_toArray, List.getElem_cons_succ, List.getElem_cons_zero]
      refine wpAnyH_ready (rs := [1]) (by kernel_rfl) (by simp) ?_
      refine AllReadyH.cons rfl (fun K hK => ?_) AllReadyH.nil
      clear hHeld
      go_simp
      go_at_call 16
      refine (HC.out _ (HF1.out.trans (Fr.refl _ _).drew)).mono ?_
      rintro e w3 ⟨rfl, f3⟩
      have hacc := (Fr.refl (fun _ => False) w1).drew.trans f3
      clear f3
      refine hK.out _ _ (PS.out _ hacc) (fun hHeld => ?_)
      clear hK K
      try simp only [Act.put, List.setIfInBounds_toArray, List.set_cons_zero, List.set_cons_succ, List.getElem_toArray, List.getElem_cons_succ, List.getElem_cons_zero]
      refine wpAnyH_take (i := 2) (v := ?_) rfl (by kernel_rfl) (by kernel_rfl) (by kernel_rfl) (fun _ _ _ h => h) (Or.inl ⟨by rfl, ?_⟩) hHeld ?_
      rotate_left 1
      · (intro w hSw; (try dsimp only at hSw); go_simp <;> with_reducible rfl)
      try simp only [Act.put, List.setIfInBounds_toArray, List.set_cons_zero, List.set_cons_succ, List.getElem_toArray, List.getElem_cons_succ, List.getElem_cons_zero]
      refine wpAnyH_take (i := 3) (v := ?_) rfl (by kernel_rfl) (by kernel_rfl) (by kernel_rfl) (fun _ _ _ h => h) (Or.inl ⟨by rfl, ?_⟩) hHeld ?_
      rotate_left 1
      · (intro w hSw; (try dsimp only at hSw); go_simp <;> with_reducible rfl)
      try simp only [Act.put, List.setIfInBounds_toArray, List.set_cons_zero, List.set_cons_succ, List.getElem_toArray, List.getElem_cons_succ, List.getElem_cons_zero]
      refine wpAnyH_take (i := 4) (v := ?_) rfl (by kernel_rfl) (by kernel_rfl) (by kernel_rfl) (fun _ _ _ h => h) (Or.inl ⟨by rfl, ?_⟩) hHeld ?_
      rotate_left 1
      · (intro w hSw; (try dsimp only at hSw); go_simp <;> with_reducible rfl)
      try simp only [Act.put, List.setIfInBounds_toArray, List.set_cons_zero, List.set_cons_succ, List.getElem_toArray, List.getElem_cons_succ, List.getElem_cons_zero]
      refine wpAnyH_take (i := 5) (v := ?_) rfl (by kernel_rfl) (by kernel_rfl) (by kernel_rfl) (fun _ _ _ h => h) (Or.inl ⟨by rfl, ?_⟩) hHeld ?_
      rotate_left 1
      · (intro w hSw; (try dsimp only at hSw); go_simp <;> with_reducible rfl)
      try simp only [Act.put, List.setIfInBounds_toArray, List.set_cons_zero, List.set_cons_succ, List.getElem_toArray, List.getElem_cons_succ, List.getElem_cons_zero]
      refine wpAnyH_take (i := 6) (v := ?_) rfl (by kernel_rfl) (by kernel_rfl) (by kernel_rfl) (fun _ _ _ h => h) (Or.inl ⟨by rfl, ?_⟩) hHeld ?_
      rotate_left 1
      · (intro w hSw; (try dsimp only at hSw); go_simp <;> with_reducible rfl)
      try simp only [Act.put, List.setIfInBounds_toArray, List.set_cons_zero, List.set_cons_succ, List.getElem_toArray, List.getElem_cons_succ, List.getElem_cons_zero]
      refine wpAnyH_take (i := 7) (v := ?_) rfl (by kernel_rfl) (by kernel_rfl) (by kernel_rfl) (fun _ _ _ h => h) (Or.inl ⟨by rfl, ?_⟩) hHeld ?_
      rotate_left 1
      · (intro w hSw; (try dsimp only at hSw); go_simp <;> with_reducible rfl)
      try simp only [Act.put, List.setIfInBounds_toArray, List.set_cons_zero, List.set_cons_succ, List.getElem_toArray, List.getElem_cons_succ, List.getElem_cons_zero]
      refine wpAnyH_ready (rs := [8]) (by kernel_rfl) (by simp) ?_
      refine AllReadyH.cons rfl (fun K hK => ?_) AllReadyH.nil
      clear hHeld
      go_simp
      go_at_call 28
      refine (HN.out _).mono ?_
      rintro e w4 ⟨rfl, rfl⟩
      refine hK.out _ _ (PS.out _ hacc) (fun hHeld => ?_)
      clear hK K
      try simp only [Act.put, List.setIfInBounds_toArray, List.set_cons_zero, List.set_cons_succ, List.getElem_toArray, List.getElem_cons_succ, List.getElem_cons_zero]
      refine wpAnyH_take (i := 9) (v := ?_) rfl (by kernel_rfl) (by kernel_rfl) (by kernel_rfl) (fun _ _ _ h => h) (Or.inl ⟨by rfl, ?_⟩) hHeld ?_
      rotate_left 1
      · (intro w hSw; (try dsimp only at hSw); go_simp <;> with_reducible rfl)
      try simp only [Act.put, List.setIfInBounds_toArray, List.set_cons_zero, List.set_cons_succ, List.getElem_toArray, List.getElem_cons_succ, List.getElem_cons_zero]
      refine wpAnyH_take (i := 10) (v := ?_) rfl (by kernel_rfl) (by kernel_rfl) (by kernel_rfl) (fun _ _ _ h => h) (Or.inl ⟨by rfl, ?_⟩) hHeld ?_
      rotate_left 1
      · (intro w hSw; (try dsimp only at hSw); go_simp <;> with_reducible rfl)
      try simp only [Act.put, List.setIfInBounds_toArray, List.set_cons_zero, List.set_cons_succ, List.getElem_toArray, List.getElem_cons_succ, List.getElem_cons_zero]
      refine wpAnyH_done (by kernel_rfl) ?_ _
      clear hHeld
      obtain ⟨p0, p1, p2, p3, p4⟩ := PS.out _ hacc
      have HY4 : Blk w3 y #[.int .i64 0, .int .i64 0, .int .i64 0, .int .i64 0, .slice none 0 0] 26 := Blk.keep (S := fun _ => False) B1 hacc (fun h => h)
      have HF4 := hid (HF1.out.trans hacc)
      clear HC HN hd B1
      go_wp2_with fail
      refine (HOO.out _ HF4.out).mono ?_
      rintro e w6 ⟨v', rfl, hr6, f6, ha6⟩
      have HF6 := hid (HF4.out.trans f6)
      have HY6 := HY4.keep f6 (fun h => h)
      have HAB := hid (fun k hk => Nat.le_trans HF4.out.size (ha6 k hk))
      have hnb : ∀ k, k ∈ footOf v' → ¬ k = y := fun k hk e => by have := ha6 k hk; have := HY4.lt; omega
      have HNB := hid hnb
      obtain ⟨ao6, cap6, rfl⟩ := rowN_shape hr6
      have HR6 := hid hr6
      obtain ⟨s', r', m', h', a', n', k', er, ha⟩ := ans_agg okk c2 ao6 N cap6
      have HA := hid ha
      rw [ha]
      clear ha f6 hr6 ha6 hnb HY4 HOO p0 p1 p2 p3 p4
      go_wp2_with (refine wpList_store_part rfl 26 _ _ rfl aggCm y 0 rfl HY6 (.agg #[.int .i64 s', .int .i64 r', .int .i64 m', .int .i64 h', .slice a' n' k']) rfl rfl (one_cc s' r' m' h' a' n' k') (by decide) #[.int .i64 s', .int .i64 r', .int .i64 m', .int .i64 h', .slice a' n' k'] rfl ?_)
      intro w7 B7 f7 z7
      have HF7 := hid (HF6.out.into f7 hyw)
      have HR7 := hid (row_keep HR6.out f7 HNB.out)
      clear f7 z7
      go_wp2_with fail
      exact bodyPost_ret (v := .tuple #[.agg #[.int .i64 s', .int .i64 r', .int .i64 m', .int .i64 h', .slice a' n' k'], .int .i64 er]) (results_cell_slot rfl _ aggCm rfl B7 rfl _ rfl) rfl ⟨_, by rw [HA.out], fun _ => ⟨by rw [← HNL.out]; exact HR7.out, HAB.out⟩, HF7.out⟩
end Go.Proofs.Ytecngibenlcdiaa
