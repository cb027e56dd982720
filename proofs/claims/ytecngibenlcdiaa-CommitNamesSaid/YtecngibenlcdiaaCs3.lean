/-
  WHAT THE DOCUMENT's New, Add, Pass OF COMMITS ANSWER: what the program's do. Conditions: members that are an int.
-/
import Derived.Test.YtecngibenlcdiaaCs2
namespace Go.Proofs.Ytecngibenlcdiaa
open Go.RowKit Go.ChangeShapes Go.WideShapes Go.Deep

set_option linter.unusedSimpArgs false
/-- What New, Add, Pass answer: a commit in memory of its own, or none. -/
def AnsR (ok : Bool) (c : Cm) (w : World) (e : Ending) (w' : World) : Prop := ∃ v', e = .returned (ans ok c v') ∧ (ok = true → RowIs w' w.heap.size v' c.L) ∧ Fr (fun _ => False) w w'
theorem more_nil (c : Cm) : more c [] = ⟨c.s, c.r, c.m, c.h + 1, c.L⟩ := by simp [more]
theorem row_nev {w : World} {v : Value} {n : Nat} {xs : List Value} (h : w.ownsRow 0 28 6 v n xs) {g : Nat} {cs : Array Value} (B : Blk w g cs 26) : ∀ k, k ∈ footOf v → ¬ k = g := fun k hk e => by
  obtain ⟨cs', bl⟩ := row_type h hk
  subst e
  exact absurd (bl.type B) (by decide)

set_option maxRecDepth 100000 in
set_option maxHeartbeats 1000000 in
theorem dnew_any (s r m : Int) (x : Ent) (w : World) (hm : Big m) : Calls Try.prog 10 #[.agg #[.int .i64 s, .int .i64 r], .int .i64 m, x.agg] w fun e w' => AnsR (okC (newC s r m x)) (newC s r m x) w e w' := by
  obtain ⟨xn, xs, xr, xa, xh, xc⟩ := x
  have HK := hid (fun v' W (hr : W.ownsRow 0 28 6 v' [(⟨xn, xs, xr, xa, xh, xc⟩ : Ent)].length (ents [⟨xn, xs, xr, xa, xh, xc⟩])) => dcheck_any (newC s r m ⟨xn, xs, xr, xa, xh, xc⟩) v' W hm (IsEs.of_row hr))
  generalize okC (newC s r m ⟨xn, xs, xr, xa, xh, xc⟩) = ok at *
  simp only [newC, Ent.agg, cv] at *
  obtain ⟨B1, B2, f2⟩ := blk2 w #[.int .i64 s, .int .i64 r] #[.int .i64 xn, .int .i64 xs, .int .i64 xr, .int .i64 xa, .int .i64 xh, .int .i64 xc] 23 28
  go_enter Try.func10, Try.ntmps10
  go_wp2_with (refine wpList_new rfl 26 rfl #[.int .i64 0, .int .i64 0, .int .i64 0, .int .i64 0, .slice none 0 0] zeroCm ?_)
  generalize (w.alloc (.cells #[.int .i64 s, .int .i64 r] 23)).alloc (.cells #[.int .i64 xn, .int .i64 xs, .int .i64 xr, .int .i64 xa, .int .i64 xh, .int .i64 xc] 28) = w2 at *
  generalize hq : w.heap.size + 1 = q at *
  generalize hp : w.heap.size = p at *
  intro y w3 hy B3 f3 z3
  have hyw : w.heap.size ≤ y := by have := B2.lt; omega
  have HF3 := hid (f2.trans f3)
  have HE3 := B2.keep f3 (fun h => h)
  have r0 := (B1.keep f3 (fun h => h)).cell 0 rfl
  have r1 := (B1.keep f3 (fun h => h)).cell 1 rfl
  clear hq hp hy z3 f2 f3 B1 B2
  go_wp2_with (first | (refine wpList_load_part rfl 28 _ rfl aggEnt q 0 rfl HE3 #[.int .i64 xn, .int .i64 xs, .int .i64 xr, .int .i64 xa, .int .i64 xh, .int .i64 xc] rfl rfl ?_) | (refine wpList_build_one rfl 24 _ rfl Try.underlying24 aggEnt (by decide) (by decide) zeroEnt #[.int .i64 xn, .int .i64 xs, .int .i64 xr, .int .i64 xa, .int .i64 xh, .int .i64 xc] rfl rfl ?_))
  intro z w4 hz B4 f4 z4
  have hzw : w.heap.size ≤ z := by have := HF3.out.size; omega
  have HF4 := hid (HF3.out.trans f4)
  have HY4 := B3.keep f4 (fun h => h)
  have hrow : w4.ownsRow 0 28 6 (.slice (some ⟨z, 0, none⟩) 1 1) [(⟨xn, xs, xr, xa, xh, xc⟩ : Ent)].length (ents [⟨xn, xs, xr, xa, xh, xc⟩]) := ⟨rfl, .inr ⟨z, 1, _, rfl, Nat.zero_le _, B4, by simp, by simp [maxLen], rfl, rfl⟩⟩
  have HR4 := hid hrow
  clear hz z4 f4 B4 B3 hrow r0 r1 HE3
  go_wp2_with (refine wpList_new rfl 26 rfl #[.int .i64 0, .int .i64 0, .int .i64 0, .int .i64 0, .slice none 0 0] zeroCm ?_)
  intro c w5 hc B5 f5 z5
  have hcw : w.heap.size ≤ c := by have := HF4.out.size; omega
  have hyc : ¬ y = c := by have := HY4.lt; omega
  have HF5 := hid (HF4.out.trans f5)
  have HY5 := HY4.keep f5 (fun h => h)
  have HR5 := hid (row_keep HR4.out f5 (fun _ _ h => h))
  clear hc z5 f5 HY4 HF4 HR4
  go_wp2_with (refine wpList_store_part rfl 26 _ _ rfl aggCm c 0 rfl B5 (.agg #[.int .i64 s, .int .i64 r, .int .i64 m, .int .i64 1, .slice (some ⟨z, 0, none⟩) 1 1]) rfl rfl (one_cc s r m 1 (some ⟨z, 0, none⟩) 1 1) (Nat.le_refl 5) #[.int .i64 s, .int .i64 r, .int .i64 m, .int .i64 1, .slice (some ⟨z, 0, none⟩) 1 1] rfl ?_)
  intro w6 B6 f6 z6
  have HF6 := hid (HF5.out.into f6 hcw)
  have HY6 := HY5.keep f6 hyc
  have HR6 := hid (row_keep HR5.out f6 (row_nev HR5.out B5))
  clear z6 f6 HY5 HF5 HR5 B5
  go_wp2_with (refine wpList_load_part rfl 26 _ rfl aggCm c 0 rfl B6 #[.int .i64 s, .int .i64 r, .int .i64 m, .int .i64 1, .slice (some ⟨z, 0, none⟩) 1 1] rfl rfl ?_)
  with_reducible refine (HK.out _ w6 HR6.out).mono ?_
  rintro e w7 ⟨rfl, f7⟩
  have HF7 := hid (HF6.out.trans f7)
  have HY7 := HY6.keep f7 (fun h => h)
  have HC7 := B6.keep f7 (fun h => h)
  have HR7 := hid (row_keep HR6.out f7 (fun _ _ h => h))
  clear f7 HK HY6 HF6 HR6 B6
  cases ok with
  | false =>
    clear HC7
    go_wp2_with (refine wpList_store_part rfl 26 _ _ rfl aggCm y 0 rfl HY7 (.agg #[.int .i64 0, .int .i64 0, .int .i64 0, .int .i64 0, .slice none 0 0]) rfl rfl (one_cc 0 0 0 0 none 0 0) (by decide) #[.int .i64 0, .int .i64 0, .int .i64 0, .int .i64 0, .slice none 0 0] rfl ?_)
    intro w8 B8 f8 z8
    have HF8 := hid (HF7.out.into f8 hyw)
    go_wp2_with fail
    exact bodyPost_ret (v := .tuple #[.agg #[.int .i64 0, .int .i64 0, .int .i64 0, .int .i64 0, .slice none 0 0], .int .i64 2]) (results_cell_slot rfl _ aggCm rfl B8 rfl _ rfl) rfl ⟨.slice none 0 0, rfl, (fun h => by cases h), HF8.out⟩
  | true =>
    go_wp2_with (first | (refine wpList_load_part rfl 26 _ rfl aggCm c 0 rfl HC7 #[.int .i64 s, .int .i64 r, .int .i64 m, .int .i64 1, .slice (some ⟨z, 0, none⟩) 1 1] rfl rfl ?_) | (refine wpList_store_part rfl 26 _ _ rfl aggCm y 0 rfl HY7 (.agg #[.int .i64 s, .int .i64 r, .int .i64 m, .int .i64 1, .slice (some ⟨z, 0, none⟩) 1 1]) rfl rfl (one_cc s r m 1 (some ⟨z, 0, none⟩) 1 1) (Nat.le_refl 5) #[.int .i64 s, .int .i64 r, .int .i64 m, .int .i64 1, .slice (some ⟨z, 0, none⟩) 1 1] rfl ?_))
    intro w8 B8 f8 z8
    have HF8 := hid (HF7.out.into f8 hyw)
    have HR8 := hid (row_keep HR7.out f8 (row_nev HR7.out HY7))
    go_wp2_with fail
    exact bodyPost_ret (v := .tuple #[.agg #[.int .i64 s, .int .i64 r, .int .i64 m, .int .i64 1, .slice (some ⟨z, 0, none⟩) 1 1], .int .i64 0]) (results_cell_slot rfl _ aggCm rfl B8 rfl _ rfl) rfl ⟨.slice (some ⟨z, 0, none⟩) 1 1, rfl, (fun _ => ⟨HR8.out, fun k hk => by simp [footOf, Value.ownBlock] at hk; omega⟩), HF8.out⟩

/-! ### Add -/
set_option maxRecDepth 100000 in
set_option maxHeartbeats 1000000 in
theorem dadd_any (c : Cm) (v : Value) (x : Ent) (w : World) (hm : Big c.m) (hv : IsEs w v c.L) : Calls Try.prog 12 #[cv c v, x.agg] w fun e w' => AnsR (addOk c x) (more c [x]) w e w' := by
  obtain ⟨ao, cap, rfl, hl1, hl2⟩ := hv.len
  have HV := hid (fun W (f : Fr (fun _ => False) w W) => dvisit_any c (.slice ao c.L.length cap) x.n W hm (hv.keep0 f))
  by_cases h1 : visV c x.n = 1
  · have hok : okC c = true := visV_ok (n := x.n) (by omega)
    have hx : addOk c x = okC (more c [x]) := by unfold addOk; rw [h1]; simp
    have hhd := (okHead_iff c).1 (okC_head' hok)
    have hle := okC_le hok
    have hl8 := mem_len c
    have HO := hid (fun W (f : Fr (fun _ => False) w W) => dcopied_any c (.slice ao c.L.length cap) W (hv.keep0 f) (by omega))
    have HK := hid (fun v' W (hr : W.ownsRow 0 28 6 v' (c.L ++ [x]).length (ents (c.L ++ [x]))) => dcheck_any (more c [x]) v' W hm (IsEs.of_row hr))
    have HL := hid (show c.L.length + [x].length ≤ 100000 by simp; omega)
    have hh0 := hhd.hop0
    have hh1 := hhd.hop1
    rw [h1] at HV
    rw [hx]
    clear h1 hx hhd hle hok hv
    generalize okC (more c [x]) = okk at *
    obtain ⟨s, r, m, h, L⟩ := c
    obtain ⟨xn, xs, xr, xa, xh, xc⟩ := x
    simp only [cv, more, Ent.agg] at *
    obtain ⟨h1, hhe⟩ : ∃ h1, h1 = h + 1 := ⟨_, rfl⟩
    have hw1 : wrap64 (h + 1) = h1 := by rw [hhe]; simp only [wrap64]; omega
    rw [← hhe] at HK ⊢
    clear hhe hh0 hh1 hl8
    obtain ⟨N, hN⟩ : ∃ N, N = L.length := ⟨_, rfl⟩
    rw [← hN] at HV HO ⊢
    have HN := hid hN
    clear hN hl1
    obtain ⟨B1, B2, f2⟩ := blk2 w #[.int .i64 s, .int .i64 r, .int .i64 m, .int .i64 h, .slice ao N cap] #[.int .i64 xn, .int .i64 xs, .int .i64 xr, .int .i64 xa, .int .i64 xh, .int .i64 xc] 26 28
    go_enter Try.func12, Try.ntmps12
    go_wp2_with (refine wpList_new rfl 26 rfl #[.int .i64 0, .int .i64 0, .int .i64 0, .int .i64 0, .slice none 0 0] zeroCm ?_)
    generalize (w.alloc (.cells #[.int .i64 s, .int .i64 r, .int .i64 m, .int .i64 h, .slice ao N cap] 26)).alloc (.cells #[.int .i64 xn, .int .i64 xs, .int .i64 xr, .int .i64 xa, .int .i64 xh, .int .i64 xc] 28) = w2 at *
    generalize hq : w.heap.size + 1 = q at *
    generalize hp : w.heap.size = p at *
    intro y w3 hy B3 f3 z3
    have hyw : w.heap.size ≤ y := by have := B2.lt; omega
    have HF3 := hid (f2.trans f3)
    have HE3 := B2.keep f3 (fun h => h)
    have HC3 := B1.keep f3 (fun h => h)
    have p0 := HC3.cell 0 rfl
    have p1 := HC3.cell 1 rfl
    have p2 := HC3.cell 2 rfl
    have p3 := HC3.cell 3 rfl
    have p4 : w3.cell? ⟨p, 4, none⟩ = some (.slice ao N cap) := HC3.cell 4 rfl
    have e0 := HE3.cell 0 rfl
    clear hq hp hy z3 f2 f3 B1 B2
    go_wp2_with fail
    with_reducible refine (HV.out _ HF3.out).mono ?_
    rintro e w4 ⟨rfl, f4⟩
    have HF4 := hid (HF3.out.trans f4)
    have HE4 := hid (HE3.keep f4 (fun h => h))
    have HC4 := hid (HC3.keep f4 (fun h => h))
    have HY4 := B3.keep f4 (fun h => h)
    have p0 := HC4.out.cell 0 rfl
    have p1 := HC4.out.cell 1 rfl
    have p2 := HC4.out.cell 2 rfl
    have p3 := HC4.out.cell 3 rfl
    have p4 : w4.cell? ⟨p, 4, none⟩ = some (.slice ao N cap) := HC4.out.cell 4 rfl
    clear e0 f4 HE3 HC3 B3 HV HF3
    go_wp2_with fail
    with_reducible refine (HO.out _ HF4.out).mono ?_
    rintro e w5 ⟨v', rfl, hr5, ha5, f5⟩
    have HF5 := hid (HF4.out.trans f5)
    have HE5 := hid (HE4.out.keep f5 (fun h => h))
    have HC5 := hid (HC4.out.keep f5 (fun h => h))
    have HY5 := hid (HY4.keep f5 (fun h => h))
    have HA5 : Hid (Above w.heap.size (footOf v')) := hid (fun k hk => Nat.le_trans HF4.out.size (ha5 k hk))
    obtain ⟨a5, c5, rfl⟩ := rowN_shape hr5
    have HR5 := hid hr5
    clear ha5 hr5 f5 p0 p1 p2 p3 p4 HY4 HE4 HC4 HF4 HO
    go_wp2_with (refine wpList_new rfl 26 rfl #[.int .i64 0, .int .i64 0, .int .i64 0, .int .i64 0, .slice none 0 0] zeroCm ?_)
    intro o w6 ho B6 f6 z6
    have how : w.heap.size ≤ o := by have := HF5.out.size; omega
    have hyo : ¬ y = o := by have := HY5.out.lt; omega
    have hpo : ¬ p = o := by have := HC5.out.lt; omega
    have hqo : ¬ q = o := by have := HE5.out.lt; omega
    have HF6 := hid (HF5.out.trans f6)
    have HE6 := hid (HE5.out.keep f6 (fun h => h))
    have HC6 := hid (HC5.out.keep f6 (fun h => h))
    have HY6 := hid (HY5.out.keep f6 (fun h => h))
    have HR6 := hid (row_keep HR5.out f6 (fun _ _ h => h))
    clear ho z6 f6 HE5 HC5 HY5 HF5 HR5
    go_wp2_with (refine wpList_store_part rfl 26 _ _ rfl aggCm o 0 rfl B6 (.agg #[.int .i64 s, .int .i64 r, .int .i64 m, .int .i64 h, .slice a5 N c5]) rfl rfl (one_cc s r m h a5 N c5) (Nat.le_refl 5) #[.int .i64 s, .int .i64 r, .int .i64 m, .int .i64 h, .slice a5 N c5] rfl ?_)
    intro w7 B7 f7 z7
    have HF7 := hid (HF6.out.into f7 how)
    have HE7 := hid (HE6.out.keep f7 hqo)
    have HC7 := hid (HC6.out.keep f7 hpo)
    have HY7 := hid (HY6.out.keep f7 hyo)
    have HR7 := hid (row_keep HR6.out f7 (row_nev HR6.out B6))
    clear z7 f7 HE6 HC6 HY6 HF6 HR6 B6
    have p3 := HC7.out.cell 3 rfl
    have o3 := B7.cell 3 rfl
    have o3f := B7.free 3
    have o4 : w7.cell? ⟨o, 4, none⟩ = some (.slice a5 N c5) := B7.cell 4 rfl
    have B8 := B7.set' 3 (.int .i64 h1) (ds := #[.int .i64 s, .int .i64 r, .int .i64 m, .int .i64 h1, .slice a5 N c5]) rfl
    have o8 : (w7.setCell ⟨o, 3, none⟩ (.int .i64 h1)).cell? ⟨o, 4, none⟩ = some (.slice a5 N c5) := B8.cell 4 rfl
    have HE8 := (HE7.out.other (p := ⟨o, 3, none⟩) hqo (.int .i64 h1))
    have HY8 := hid (HY7.out.other (p := ⟨o, 3, none⟩) hyo (.int .i64 h1))
    have HF8 := hid (HF7.out.setNew (p := ⟨o, 3, none⟩) how (.int .i64 h1))
    have HR8 := hid (row_keep HR7.out ((Fr.refl (· = o) w7).set1 3 (.int .i64 h1)) (row_nev HR7.out B7))
    clear HE7 HC7 HY7 HF7 HR7 B7
    go_wp2_with (first | (refine wpList_load_part rfl 28 _ rfl aggEnt q 0 rfl HE8 #[.int .i64 xn, .int .i64 xs, .int .i64 xr, .int .i64 xa, .int .i64 xh, .int .i64 xc] rfl rfl ?_) | (refine wpList_build_one rfl 24 _ rfl Try.underlying24 aggEnt (by decide) (by decide) zeroEnt #[.int .i64 xn, .int .i64 xs, .int .i64 xr, .int .i64 xa, .int .i64 xh, .int .i64 xc] rfl rfl ?_))
    intro z w9 hz B9 f9 z9
    have hrow : w9.ownsRow 0 28 6 (.slice (some ⟨z, 0, none⟩) 1 1) [(⟨xn, xs, xr, xa, xh, xc⟩ : Ent)].length (ents [⟨xn, xs, xr, xa, xh, xc⟩]) := ⟨rfl, .inr ⟨z, 1, _, rfl, Nat.zero_le _, B9, by simp, by simp [maxLen], rfl, rfl⟩⟩
    have HZ9 := hid (IsEs.of_row hrow)
    have HB9 := hid (B8.keep f9 (fun h => h))
    have HY9 := hid (HY8.out.keep f9 (fun h => h))
    have HF9 := hid (HF8.out.trans f9)
    have HR9 := hid (row_keep HR8.out f9 (fun _ _ h => h))
    have o9 : w9.cell? ⟨o, 4, none⟩ = some (.slice a5 N c5) := HB9.out.cell 4 rfl
    clear hz z9 f9 B9 hrow HE8 HY8 HF8 HR8 B8 o8 p3 o3 o3f o4
    go_wp2_with (at_builtin; refine wpList_append_es rfl _ _ rfl (.slice a5 N c5) L [⟨xn, xs, xr, xa, xh, xc⟩] rfl (by have := HR9.out; rw [HN.out] at this ⊢; exact this) (.slice (some ⟨z, 0, none⟩) 1 1) rfl HZ9.out HL.out ?_)
    intro v2 wA hrA fA gA
    have HBA := hid (HB9.out.keep fA (fun hk => row_nev HR9.out HB9.out _ hk rfl))
    have HYA := hid (HY9.out.keep fA (fun hk => row_nev HR9.out HY9.out _ hk rfl))
    have HFA := hid (HF9.out.own fA HA5.out)
    have HAA := hid (HA5.out.grows gA HF9.out.size)
    have hrB : wA.ownsRow 0 28 6 v2 (L ++ [(⟨xn, xs, xr, xa, xh, xc⟩ : Ent)]).length (ents (L ++ [(⟨xn, xs, xr, xa, xh, xc⟩ : Ent)])) := by rw [List.length_append]; exact hrA
    clear hrA
    have hrA := hrB
    obtain ⟨a6, c6, rfl⟩ := rowN_shape hrA

    clear hrB
    obtain ⟨N2, hN2⟩ : ∃ N2, N2 = (L ++ [(⟨xn, xs, xr, xa, xh, xc⟩ : Ent)]).length := ⟨_, rfl⟩
    have HN2 := hid hN2
    rw [← hN2] at hrA HK HAA ⊢
    clear hN2
    have HRA := hid hrA
    clear hrA fA gA HB9 HY9 HF9 HR9 HZ9 o9 HA5
    have o4 : wA.cell? ⟨o, 4, none⟩ = some (.slice a5 N c5) := HBA.out.cell 4 rfl
    have o4f := HBA.out.free 4
    have BB := HBA.out.set' 4 (.slice a6 N2 c6) (ds := #[.int .i64 s, .int .i64 r, .int .i64 m, .int .i64 h1, .slice a6 N2 c6]) rfl
    have HYB := hid (HYA.out.other (p := ⟨o, 4, none⟩) hyo (.slice a6 N2 c6))
    have HFB := hid (HFA.out.setNew (p := ⟨o, 4, none⟩) how (.slice a6 N2 c6))
    have HRB := hid (row_keep HRA.out ((Fr.refl (· = o) wA).set1 4 (.slice a6 N2 c6)) (row_nev HRA.out HBA.out))
    clear HBA HYA HFA HRA
    go_wp2_with (refine wpList_load_part rfl 26 _ rfl aggCm o 0 rfl BB #[.int .i64 s, .int .i64 r, .int .i64 m, .int .i64 h1, .slice a6 N2 c6] rfl rfl ?_)
    with_reducible refine (HK.out _ _ HRB.out).mono ?_
    rintro e wC ⟨rfl, fC⟩
    have HFC := hid (HFB.out.trans fC)
    have HYC := HYB.out.keep fC (fun h => h)
    have HOC := BB.keep fC (fun h => h)
    have HRC := hid (row_keep HRB.out fC (fun _ _ h => h))
    clear fC HK HYB HFB HRB BB o4 o4f
    cases okk with
    | false =>
      clear HOC
      go_wp2_with (refine wpList_store_part rfl 26 _ _ rfl aggCm y 0 rfl HYC (.agg #[.int .i64 0, .int .i64 0, .int .i64 0, .int .i64 0, .slice none 0 0]) rfl rfl (one_cc 0 0 0 0 none 0 0) (by decide) #[.int .i64 0, .int .i64 0, .int .i64 0, .int .i64 0, .slice none 0 0] rfl ?_)
      intro w8 B8 f8 z8
      have HF8 := hid (HFC.out.into f8 hyw)
      go_wp2_with fail
      exact bodyPost_ret (v := .tuple #[.agg #[.int .i64 0, .int .i64 0, .int .i64 0, .int .i64 0, .slice none 0 0], .int .i64 2]) (results_cell_slot rfl _ aggCm rfl B8 rfl _ rfl) rfl ⟨.slice none 0 0, rfl, (fun h => by cases h), HF8.out⟩
    | true =>
      go_wp2_with (first | (refine wpList_load_part rfl 26 _ rfl aggCm o 0 rfl HOC #[.int .i64 s, .int .i64 r, .int .i64 m, .int .i64 h1, .slice a6 N2 c6] rfl rfl ?_) | (refine wpList_store_part rfl 26 _ _ rfl aggCm y 0 rfl HYC (.agg #[.int .i64 s, .int .i64 r, .int .i64 m, .int .i64 h1, .slice a6 N2 c6]) rfl rfl (one_cc s r m h1 a6 N2 c6) (Nat.le_refl 5) #[.int .i64 s, .int .i64 r, .int .i64 m, .int .i64 h1, .slice a6 N2 c6] rfl ?_))
      intro w8 B8 f8 z8
      have HF8 := hid (HFC.out.into f8 hyw)
      have HR8 := hid (row_keep HRC.out f8 (row_nev HRC.out HYC))
      go_wp2_with fail
      exact bodyPost_ret (v := .tuple #[.agg #[.int .i64 s, .int .i64 r, .int .i64 m, .int .i64 h1, .slice a6 N2 c6], .int .i64 0]) (results_cell_slot rfl _ aggCm rfl B8 rfl _ rfl) rfl ⟨.slice a6 N2 c6, rfl, (fun _ => ⟨by have := HR8.out; rw [HN2.out] at this ⊢; exact this, HAA.out⟩), HF8.out⟩
  · have hx : addOk c x = false := by unfold addOk; rw [decide_eq_false h1]; rfl
    have hne : (visV c x.n != 1) = true := by simp [h1]
    rw [hx]
    clear h1 hx hv
    generalize visV c x.n = vv at *
    obtain ⟨s, r, m, h, L⟩ := c
    obtain ⟨xn, xs, xr, xa, xh, xc⟩ := x
    simp only [cv, Ent.agg] at *
    obtain ⟨N, hN⟩ : ∃ N, N = L.length := ⟨_, rfl⟩
    rw [← hN] at HV ⊢
    clear hN hl1
    obtain ⟨B1, B2, f2⟩ := blk2 w #[.int .i64 s, .int .i64 r, .int .i64 m, .int .i64 h, .slice ao N cap] #[.int .i64 xn, .int .i64 xs, .int .i64 xr, .int .i64 xa, .int .i64 xh, .int .i64 xc] 26 28
    go_enter Try.func12, Try.ntmps12
    go_wp2_with (refine wpList_new rfl 26 rfl #[.int .i64 0, .int .i64 0, .int .i64 0, .int .i64 0, .slice none 0 0] zeroCm ?_)
    generalize (w.alloc (.cells #[.int .i64 s, .int .i64 r, .int .i64 m, .int .i64 h, .slice ao N cap] 26)).alloc (.cells #[.int .i64 xn, .int .i64 xs, .int .i64 xr, .int .i64 xa, .int .i64 xh, .int .i64 xc] 28) = w2 at *
    generalize hq : w.heap.size + 1 = q at *
    generalize hp : w.heap.size = p at *
    intro y w3 hy B3 f3 z3
    have hyw : w.heap.size ≤ y := by have := B2.lt; omega
    have HF3 := hid (f2.trans f3)
    have HE3 := B2.keep f3 (fun h => h)
    have HC3 := B1.keep f3 (fun h => h)
    have p0 := HC3.cell 0 rfl
    have p1 := HC3.cell 1 rfl
    have p2 := HC3.cell 2 rfl
    have p3 := HC3.cell 3 rfl
    have p4 : w3.cell? ⟨p, 4, none⟩ = some (.slice ao N cap) := HC3.cell 4 rfl
    have e0 := HE3.cell 0 rfl
    clear hq hp hy z3 f2 f3 B1 B2
    go_wp2_with fail
    refine (HV.out _ HF3.out).mono ?_
    rintro e w4 ⟨rfl, f4⟩
    have HF4 := hid (HF3.out.trans f4)
    have HY4 := B3.keep f4 (fun h => h)
    clear e0 f4 HE3 HC3 B3 HV p0 p1 p2 p3 p4
    go_wp2_with (refine wpList_store_part rfl 26 _ _ rfl aggCm y 0 rfl HY4 (.agg #[.int .i64 0, .int .i64 0, .int .i64 0, .int .i64 0, .slice none 0 0]) rfl rfl (one_cc 0 0 0 0 none 0 0) (by decide) #[.int .i64 0, .int .i64 0, .int .i64 0, .int .i64 0, .slice none 0 0] rfl ?_)
    intro w5 B5 f5 z5
    have HF5 := hid (HF4.out.into f5 hyw)
    clear f5 z5
    go_wp2_with fail
    exact bodyPost_ret (v := .tuple #[.agg #[.int .i64 0, .int .i64 0, .int .i64 0, .int .i64 0, .slice none 0 0], .int .i64 2]) (results_cell_slot rfl _ aggCm rfl B5 rfl _ rfl) rfl ⟨.slice none 0 0, rfl, (fun h => by cases h), HF5.out⟩

/-! ### Pass -/
theorem pass_two (c : Cm) : passOk c = decide (visV c (toD c) = 2) := by
  cases hok : okC c with
  | false => unfold passOk visV; rw [hok]; rfl
  | true =>
    rw [toD_toV hok]
    have hh := (okHead_iff c).1 (okC_head' hok)
    have hle := okC_le hok
    have h1 := hh.hop1
    have h0 := hh.hop0
    have hl := hh.len
    have hE := hh.ents
    have hmem : mem (more c []) = mem c := rfl
    have hmore : ((mem c).length : Int) ≤ c.h → (okC (more c []) = decide (c.h < 2 * (mem c).length)) := by
      intro hn
      by_cases hc : c.h < 2 * (mem c).length
      · rw [decide_eq_true hc]
        refine okC_all ((okHead_iff _).2 ⟨by rw [hmem]; exact hl, hh.ring, by rw [hmem]; exact hh.rep, ?_, ?_, ?_⟩) (fun i hi => ?_)
        · show 1 ≤ c.h + 1; omega
        · show c.h + 1 ≤ 2 * ((mem c).length : Int); omega
        · show ((c.L ++ []).length : Int) = if ((mem c).length : Int) < c.h + 1 then ((mem c).length : Int) else c.h + 1
          rw [List.append_nil, if_pos (by omega), hE]
          split <;> omega
        · have hi' : i < c.L.length := by simpa [more] using hi
          have ho := hok
          unfold okC at ho
          simp only [Bool.and_eq_true, List.all_eq_true] at ho
          have := ho.2 i (List.mem_range.2 hi')
          unfold okAt at this ⊢
          rw [hmem]
          simpa [more] using this
      · rw [decide_eq_false hc]
        cases hb : okC (more c []) with
        | false => rfl
        | true =>
          have h2 := ((okHead_iff _).1 (okC_head' hb)).hop1
          have h3 : c.h + 1 ≤ 2 * ((mem c).length : Int) := h2
          omega
    unfold passOk visV
    rw [hok, if_pos rfl, if_pos rfl, Bool.true_and]
    by_cases hn : ((mem c).length : Int) ≤ c.h
    · rw [hmore hn, decide_eq_true hn, Bool.true_and, if_neg (by omega)]
      by_cases hc : c.h < 2 * (mem c).length
      · rw [if_pos hc, decide_eq_true hc]; rfl
      · rw [if_neg hc, decide_eq_false hc]; rfl
    · rw [decide_eq_false hn, if_pos (by omega)]; rfl

set_option maxRecDepth 100000 in
set_option maxHeartbeats 1000000 in
theorem dpass_any (c : Cm) (v : Value) (w : World) (hm : Big c.m) (hv : IsEs w v c.L) : Calls Try.prog 14 #[cv c v] w fun e w' => AnsR (passOk c) ⟨c.s, c.r, c.m, c.h + 1, c.L⟩ w e w' := by
  rw [pass_two]
  have HT := hid (fun W => dto_any c v W hm)
  obtain ⟨ao, cap, rfl, hl1, hl2⟩ := hv.len
  have HV := hid (fun W (f : Fr (fun _ => False) w W) => dvisit_any c (.slice ao c.L.length cap) (toD c) W hm (hv.keep0 f))
  have HOK : Hid (visV c (toD c) = 2 → 1 ≤ c.h ∧ c.h ≤ 16 ∧ c.L.length ≤ 8) := hid (fun h => by
    have hok : okC c = true := visV_ok (n := toD c) (by omega)
    have hhd := (okHead_iff c).1 (okC_head' hok)
    have hle := okC_le hok
    have hl8 := mem_len c
    have h1 := hhd.hop1
    exact ⟨hhd.hop0, by omega, by omega⟩)
  have HO := hid (fun W (h8 : c.L.length ≤ 8) (f : Fr (fun _ => False) w W) => dcopied_any c (.slice ao c.L.length cap) W (hv.keep0 f) (by omega))
  generalize toD c = td at *
  generalize visV c td = vv at *
  obtain ⟨s, r, m, h, L⟩ := c
  simp only [cv, more, List.append_nil] at *
  obtain ⟨N, hN⟩ : ∃ N, N = L.length := ⟨_, rfl⟩
  rw [← hN] at HV HO HT HOK ⊢
  have HN := hid hN
  obtain ⟨h1, hhe⟩ : ∃ h1, h1 = h + 1 := ⟨_, rfl⟩
  rw [← hhe]
  have HHE := hid hhe
  clear hN hl1 hv hm hhe
  have HB0 := Blk.new w #[.int .i64 s, .int .i64 r, .int .i64 m, .int .i64 h, .slice ao N cap] 26
  have HF0 := (Fr.refl (fun _ => False) w).alloc (.cells #[.int .i64 s, .int .i64 r, .int .i64 m, .int .i64 h, .slice ao N cap] 26)
  go_enter Try.func14, Try.ntmps14
  go_wp2_with (refine wpList_new rfl 26 rfl #[.int .i64 0, .int .i64 0, .int .i64 0, .int .i64 0, .slice none 0 0] zeroCm ?_)
  generalize (w.alloc (.cells #[.int .i64 s, .int .i64 r, .int .i64 m, .int .i64 h, .slice ao N cap] 26)) = w0 at *
  generalize hp : w.heap.size = p at *
  intro y w1 hy B1 f1 z1
  have HB1 : Hid (Blk w1 p #[.int .i64 s, .int .i64 r, .int .i64 m, .int .i64 h, .slice ao N cap] 26) := hid (Blk.keep (S := fun _ => False) HB0 f1 (fun h => h))
  have hyw : w.heap.size ≤ y := by have := HB0.lt; omega
  have HF1 := hid (HF0.trans f1)
  have HY1 := hid B1
  have PS : Hid (∀ W, Fr (fun _ => False) w1 W → W.cell? ⟨p, 0, none⟩ = some (.int .i64 s) ∧ W.cell? ⟨p, 1, none⟩ = some (.int .i64 r) ∧ W.cell? ⟨p, 2, none⟩ = some (.int .i64 m) ∧ W.cell? ⟨p, 3, none⟩ = some (.int .i64 h) ∧ W.cell? ⟨p, 4, none⟩ = some (.slice ao N cap)) := hid (fun W f => by
    have hb := HB1.out.keep f (fun h => h)
    exact ⟨hb.cell 0 rfl, hb.cell 1 rfl, hb.cell 2 rfl, hb.cell 3 rfl, hb.cell 4 rfl⟩)
  clear hy z1 f1 HB0 HF0 hp B1
  go_wp2_with fail
  refine wp_region_held_drew (S := fun W => W.cell? ⟨p, 0, none⟩ = some (.int .i64 s) ∧ W.cell? ⟨p, 1, none⟩ = some (.int .i64 r) ∧ W.cell? ⟨p, 2, none⟩ = some (.int .i64 m) ∧ W.cell? ⟨p, 3, none⟩ = some (.int .i64 h) ∧ W.cell? ⟨p, 4, none⟩ = some (.slice ao N cap)) (by kernel_rfl) (PS.out _ (Fr.refl _ _).drew) (fun hHeld => ?_)
  refine wpAnyH_take (i := 0) (v := ?_) rfl (by kernel_rfl) (by kernel_rfl) (by kernel_rfl) (fun _ _ _ h => h) (Or.inl ⟨by rfl, ?_⟩) hHeld ?_
  rotate_left 1
  · (intro w hSw; (try dsimp only at hSw); go_simp <;> with_reducible rfl)
  try simp only [Act.put, List.setIfInBounds_toArray, List.set_cons_zero, List.set_cons_succ, List.getElem_toArray, List.getElem_cons_succ, List.getElem_cons_zero]
  refine wpAnyH_take (i := 1) (v := ?_) rfl (by kernel_rfl) (by kernel_rfl) (by kernel_rfl) (fun _ _ _ h => h) (Or.inl ⟨by rfl, ?_⟩) hHeld ?_
  rotate_left 1
  · (intro w hSw; (try dsimp only at hSw); go_simp <;> with_reducible rfl)
  try simp only [Act.put, List.setIfInBounds_toArray, List.set_cons_zero, List.set_cons_succ, List.getElem_toArray, List.getElem_cons_succ, List.getElem_cons_zero]
  refine wpAnyH_ready (rs := [2]) (by kernel_rfl) (by simp) ?_
  refine AllReadyH.cons rfl (fun K hK => ?_) AllReadyH.nil
  clear hHeld
  go_simp
  go_at_call 34
  with_reducible refine (HT.out _).mono ?_
  rintro e w3 ⟨rfl, f3⟩
  have hacc := (Fr.refl (fun _ => False) w1).drew.trans f3
  clear f3
  refine hK.out _ _ (PS.out _ hacc) (fun hHeld => ?_)
  clear hK K
  try simp only [Act.put, List.setIfInBounds_toArray, List.set_cons_zero, List.set_cons_succ, List.getElem_toArray, List.getElem_cons_succ, List.getElem_cons_zero]
  refine wpAnyH_ready (rs := [3]) (by kernel_rfl) (by simp) ?_
  refine AllReadyH.cons rfl (fun K hK => ?_) AllReadyH.nil
  clear hHeld
  go_simp
  go_at_call 19
  with_reducible refine (HV.out _ (HF1.out.trans hacc)).mono ?_
  rintro e w4 ⟨rfl, f4⟩
  have hacc2 := hacc.trans f4
  clear f4
  refine hK.out _ _ (PS.out _ hacc2) (fun hHeld => ?_)
  clear hK K
  try simp only [Act.put, List.setIfInBounds_toArray, List.set_cons_zero, List.set_cons_succ, List.getElem_toArray, List.getElem_cons_succ, List.getElem_cons_zero]
  refine wpAnyH_take (i := 4) (v := ?_) rfl (by kernel_rfl) (by kernel_rfl) (by kernel_rfl) (fun _ _ _ h => h) (Or.inl ⟨by rfl, ?_⟩) hHeld ?_
  rotate_left 1
  · (intro w hSw; (try dsimp only at hSw); go_simp <;> with_reducible rfl)
  try simp only [Act.put, List.setIfInBounds_toArray, List.set_cons_zero, List.set_cons_succ, List.getElem_toArray, List.getElem_cons_succ, List.getElem_cons_zero]
  refine wpAnyH_done (by kernel_rfl) ?_ _
  clear hHeld
  have HF4 := hid (HF1.out.trans hacc2)
  have HC4 := hid (HB1.out.keep hacc2 (fun h => h))
  have HY4 := hid (HY1.out.keep hacc2 (fun h => h))
  clear hacc hacc2 HT HV HB1 HY1 HF1 PS
  by_cases h2 : vv = 2
  · have hne : (vv != 2) = false := by simp [h2]
    have hde : decide (vv = 2) = true := decide_eq_true h2
    obtain ⟨hh0, hh1, hL8⟩ := HOK.out h2
    have HDE := hid hde
    clear h2 hde HOK
    have hw1 : wrap64 (h + 1) = h1 := by rw [HHE.out]; simp only [wrap64]; omega
    clear hh0 hh1
    have p0 := HC4.out.cell 0 rfl
    have p1 := HC4.out.cell 1 rfl
    have p2 := HC4.out.cell 2 rfl
    have p3 := HC4.out.cell 3 rfl
    have p4 : w4.cell? ⟨p, 4, none⟩ = some (.slice ao N cap) := HC4.out.cell 4 rfl
    go_wp2_with fail
    with_reducible refine (HO.out _ hL8 HF4.out).mono ?_
    rintro e w5 ⟨v', rfl, hr5, ha5, f5⟩
    have HF5 := hid (HF4.out.trans f5)
    have HC5 := hid (HC4.out.keep f5 (fun h => h))
    have HY5 := hid (HY4.out.keep f5 (fun h => h))
    have HA5 : Hid (Above w.heap.size (footOf v')) := hid (fun k hk => Nat.le_trans HF4.out.size (ha5 k hk))
    obtain ⟨a5, c5, rfl⟩ := rowN_shape hr5
    have HR5 := hid hr5
    clear ha5 hr5 f5 p0 p1 p2 p3 p4 HY4 HC4 HF4 HO hL8
    go_wp2_with (refine wpList_new rfl 26 rfl #[.int .i64 0, .int .i64 0, .int .i64 0, .int .i64 0, .slice none 0 0] zeroCm ?_)
    intro o w6 ho B6 f6 z6
    have how : w.heap.size ≤ o := by have := HF5.out.size; omega
    have hyo : ¬ y = o := by have := HY5.out.lt; omega
    have hpo : ¬ p = o := by have := HC5.out.lt; omega
    have HF6 := hid (HF5.out.trans f6)
    have HC6 := hid (HC5.out.keep f6 (fun h => h))
    have HY6 := hid (HY5.out.keep f6 (fun h => h))
    have HR6 := hid (row_keep HR5.out f6 (fun _ _ h => h))
    clear ho z6 f6 HC5 HY5 HF5 HR5
    go_wp2_with (refine wpList_store_part rfl 26 _ _ rfl aggCm o 0 rfl B6 (.agg #[.int .i64 s, .int .i64 r, .int .i64 m, .int .i64 h, .slice a5 N c5]) rfl rfl (one_cc s r m h a5 N c5) (Nat.le_refl 5) #[.int .i64 s, .int .i64 r, .int .i64 m, .int .i64 h, .slice a5 N c5] rfl ?_)
    intro w7 B7 f7 z7
    have HF7 := hid (HF6.out.into f7 how)
    have HC7 := hid (HC6.out.keep f7 hpo)
    have HY7 := hid (HY6.out.keep f7 hyo)
    have HR7 := hid (row_keep HR6.out f7 (row_nev HR6.out B6))
    clear z7 f7 HC6 HY6 HF6 HR6 B6
    have p3 := HC7.out.cell 3 rfl
    have o3f := B7.free 3
    have o3 := B7.cell 3 rfl
    have B8 := B7.set' 3 (.int .i64 h1) (ds := #[.int .i64 s, .int .i64 r, .int .i64 m, .int .i64 h1, .slice a5 N c5]) rfl
    have HY8 := (HY7.out.other (p := ⟨o, 3, none⟩) hyo (.int .i64 h1))
    have HF8 := hid (HF7.out.setNew (p := ⟨o, 3, none⟩) how (.int .i64 h1))
    have HR8 := hid (row_keep HR7.out ((Fr.refl (· = o) w7).set1 3 (.int .i64 h1)) (row_nev HR7.out B7))
    clear HC7 HY7 HF7 HR7 B7
    go_wp2_with (first | (refine wpList_load_part rfl 26 _ rfl aggCm o 0 rfl B8 #[.int .i64 s, .int .i64 r, .int .i64 m, .int .i64 h1, .slice a5 N c5] rfl rfl ?_) | (refine wpList_store_part rfl 26 _ _ rfl aggCm y 0 rfl HY8 (.agg #[.int .i64 s, .int .i64 r, .int .i64 m, .int .i64 h1, .slice a5 N c5]) rfl rfl (one_cc s r m h1 a5 N c5) (Nat.le_refl 5) #[.int .i64 s, .int .i64 r, .int .i64 m, .int .i64 h1, .slice a5 N c5] rfl ?_))
    intro w9 B9 f9 z9
    have HF9 := hid (HF8.out.into f9 hyw)
    have HR9 := hid (row_keep HR8.out f9 (row_nev HR8.out HY8))
    go_wp2_with fail
    exact bodyPost_ret (v := .tuple #[.agg #[.int .i64 s, .int .i64 r, .int .i64 m, .int .i64 h1, .slice a5 N c5], .int .i64 0]) (results_cell_slot rfl _ aggCm rfl B9 rfl _ rfl) rfl ⟨.slice a5 N c5, by rw [HDE.out]; rfl, (fun _ => ⟨by have := HR9.out; rw [HN.out] at this ⊢; exact this, HA5.out⟩), HF9.out⟩
  · have hne : (vv != 2) = true := by simp [h2]
    have hde : decide (vv = 2) = false := decide_eq_false h2
    have HDE := hid hde
    clear h2 hde HOK HO
    have HY4' := HY4.out
    go_wp2_with (refine wpList_store_part rfl 26 _ _ rfl aggCm y 0 rfl HY4' (.agg #[.int .i64 0, .int .i64 0, .int .i64 0, .int .i64 0, .slice none 0 0]) rfl rfl (one_cc 0 0 0 0 none 0 0) (by decide) #[.int .i64 0, .int .i64 0, .int .i64 0, .int .i64 0, .slice none 0 0] rfl ?_)
    intro w5 B5 f5 z5
    have HF5 := hid (HF4.out.into f5 hyw)
    go_wp2_with fail
    exact bodyPost_ret (v := .tuple #[.agg #[.int .i64 0, .int .i64 0, .int .i64 0, .int .i64 0, .slice none 0 0], .int .i64 2]) (results_cell_slot rfl _ aggCm rfl B5 rfl _ rfl) rfl ⟨.slice none 0 0, by rw [HDE.out]; rfl, (fun h => by rw [HDE.out] at h; cases h), HF5.out⟩
end Go.Proofs.Ytecngibenlcdiaa
