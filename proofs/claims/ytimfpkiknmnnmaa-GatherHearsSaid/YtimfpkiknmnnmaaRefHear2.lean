/-
  THE REFERENCE's GATHERING: Hear, where a join is laid to the list. Conditions: as in RefHeard.
-/
import Derived.Test.YtimfpkiknmnnmaaRefHear
import Derived.Deep.RegionLaw
namespace Go.Proofs.Ytimfpkiknmnnmaa
open Go.RowKit

theorem joinI : ∃ i, Try.prog.info? 34 = some i ∧ i.zero = some (.agg #[.int .i64 0, .int .i64 0, .int .i64 0]) ∧ i.size = 3 ∧ i.bytes = 24 := by
  exact ⟨_, rfl, rfl, rfl, rfl⟩
theorem three_new (w : World) (a b c : Value) (t : TypeId) (z : Nat) (hz : z = w.heap.size) : ∀ j x, ([a, b, c] : List Value)[j]? = some x → (w.alloc (.cells #[a, b, c] t)).cell? ((⟨z, 0, none⟩ : Addr).add j) = some x := by
  subst hz
  intro j x h
  have hb := Blk.new w #[a, b, c] t
  have : (⟨w.heap.size, 0, none⟩ : Addr).add j = ⟨w.heap.size, j, none⟩ := by simp [Addr.add]; omega
  rw [this]
  exact hb.cell j (by simpa using h)
theorem three_int (s p c : Int) : ∀ u ∈ jc (s, p, c), u.oneCell' = true := by
  intro u hu
  simp [jc] at hu
  rcases hu with rfl | rfl | rfl <;> rfl
theorem cell_not2 {S : Nat → Prop} {w w' : World} {p : Addr} {v : Value} (f : Fr S w w') (hn : ¬ S p.block) (hc : w.cell? p = some v) : w'.cell? p = some v := by
  obtain ⟨b, o, x⟩ := p
  unfold World.cell? at hc ⊢
  cases hb : w.heap[b]? with
  | none => simp [hb] at hc
  | some ob => rw [f.keep hb hn]; simpa [hb] using hc

theorem row_shape {w : World} {base : Nat} {e : TypeId} {size : Nat} {v : Value} {n : Nat} {xs : List Value} (h : w.ownsRow base e size v n xs) : ∃ ao cap, v = .slice ao n cap := by
  rcases h.2 with ⟨rfl, rfl⟩ | ⟨g, cap, cur, rfl, _⟩
  · have := h.1; simp at this
    exact ⟨none, 0, rfl⟩
  · exact ⟨_, cap, rfl⟩

def RHearIs (r : Nat) (v : Value) (N C : Int) (H' : List J3) (w : World) (ch gr : Bool) (e : Ending) (w' : World) : Prop :=
  ∃ v', e = .returned (.tuple #[.bool ch, .bool gr, .int .i64 0]) ∧ RS w' r v' N C H' ∧ Fr (fun k => k = r ∨ k ∈ footOf v) w w' ∧ Grows w (footOf v) (footOf v')

set_option maxRecDepth 100000 in
set_option maxHeartbeats 2000000 in
theorem rhear_good {r : Nat} {v : Value} {N C : Int} {H : List J3} (s p c : Int) (w : World) (h : RS w r v N C H) (hl : H.length ≤ 1000000) (hw : wfJ (s, p, c)) (hj : okJ (s, p, c) = true) (hsN : s ≠ N) :
    Calls Try.prog 12 #[.pointer (some ⟨r, 0, none⟩), .agg #[.int .i64 s, .int .i64 p, .int .i64 c]] w (RHearIs r v N C (H ++ [(s, p, c)]) w (!decide (lastR H s = some (s, p, c))) (lastR H s).isNone) := by
  obtain ⟨i0, i1, i2, i3, i4⟩ := joinI
  obtain ⟨k1, k2, k3, k4, k5, k6, k7⟩ := okJ_of hj
  have f1 : Fr (fun _ => False) w (w.alloc (.cells #[.int .i64 s, .int .i64 p, .int .i64 c] 34)) := (Fr.refl _ w).alloc _
  have hz := Blk.new w #[.int .i64 s, .int .i64 p, .int .i64 c] 34
  have h1 := hid (h.keep f1)
  have hrz : Hid (r ≠ w.heap.size ∧ w.heap.size ∉ footOf v) := hid ⟨by have := h.blk.lt; omega, fun hh => by have := row_live h.row _ hh; omega⟩
  have hne := h.ne
  clear h
  go_enter Try.func12, Try.ntmps12
  go_wp2_with fail
  generalize w.alloc (.cells #[.int .i64 s, .int .i64 p, .int .i64 c] 34) = w1 at *
  generalize hzz : w.heap.size = z at *
  have HZZ := hid hzz
  clear hzz
  refine (rmay_any s p c w1 hw.2.1.lo hw.2.1.hi).mono ?_
  rintro e w2 ⟨rfl, f2⟩
  rw [hj]
  have hz2 := hz.keep f2 (fun h => h)
  have z0 := hz2.cell 0 rfl
  have HR2 := hid (h1.out.keep f2)
  have r0 := HR2.out.blk.cell 0 rfl
  have HF := hid (f1.trans f2)
  have HZ2 := hid hz2
  have hnq : (s == N) = false := by simpa using hsN
  have HNE := hid hne
  clear hz f1 f2 hj hz2 hne h1 hsN
  go_wp2_with fail
  go_region
  all_goals
    go_wp2_with fail
    have HR3 := hid (HR2.out.keep ((Fr.refl (fun _ => False) w2).drew))
    have HZ3 := hid (HZ2.out.drew)
    have HF3 := hid HF.out.drew
    clear z0 r0
    generalize w2.drew = w3 at *
    have z0 := HZ3.out.cell 0 rfl
    go_wp2_with fail
    refine (rlast_any s w3 HR3.out).mono ?_
    rintro e w4 ⟨rfl, f4⟩
    have HR4 := hid (HR3.out.keep f4)
    have HZ4 := hid (HZ3.out.keep f4 (fun h => h))
    have HF4 := hid (HF3.out.trans f4)
    clear f4 z0
    obtain ⟨x, y, u, kn, hw1, hw2, hw3⟩ : ∃ x y u : Int, ∃ kn : Bool, ((lastR H s).map jv).getD (jv j0) = .agg #[.int .i64 x, .int .i64 y, .int .i64 u] ∧ (lastR H s).isSome = kn ∧ (kn = true → lastR H s = some (x, y, u)) := by
      cases hget : lastR H s with
      | none => exact ⟨0, 0, 0, false, rfl, rfl, fun h => by cases h⟩
      | some q => exact ⟨q.1, q.2.1, q.2.2, true, rfl, rfl, fun _ => rfl⟩
    rw [hw1, hw2]
    have HW2 := hid hw2
    have HW3 := hid hw3
    clear hw1 hw2 hw3
    go_wp2_with fail
    have h5 : Fr (fun _ => False) w4 (w4.alloc (.cells #[.int .i64 x, .int .i64 y, .int .i64 u] 34)) := (Fr.refl _ w4).alloc _
    have HD := hid (Blk.new w4 #[.int .i64 x, .int .i64 y, .int .i64 u] 34)
    have HR5 := hid (HR4.out.keep h5)
    have HZ5 := hid (HZ4.out.keep h5 (fun h => h))
    have HF5 := hid (HF4.out.trans h5)
    have HW4 := hid HF4.out.size
    have hrd : r ≠ w4.heap.size := by have := HR4.out.blk.lt; omega
    have hvd : w4.heap.size ∉ footOf v := fun hh => by have := row_live HR4.out.row _ hh; omega
    have hzd : z ≠ w4.heap.size := by have := HZ4.out.lt; omega
    have HDD := hid (And.intro hrd (And.intro hvd hzd))
    clear h5 hrd hvd hzd HR4 HZ4 HF4 HR3 HZ3 HF3 HR2 HZ2 HF
    generalize w4.alloc (.cells #[.int .i64 x, .int .i64 y, .int .i64 u] 34) = w5 at *
    generalize w4.heap.size = d at *
    have q0 := HZ5.out.cell 0 rfl
    have q1 := HZ5.out.cell 1 rfl
    have q2 := HZ5.out.cell 2 rfl
    have b2 := HR5.out.blk.cell 2 rfl
    have bf := HR5.out.blk.free 2
    have hrz : r ≠ z ∧ z ∉ footOf v := hrz.out
    have hzr : z ≠ (⟨r, 2, none⟩ : Addr).block := fun e => hrz.1 e.symm
    have h6 : Fr (fun _ => False) w5 (w5.drew.alloc (.cells #[.int .i64 s, .int .i64 p, .int .i64 c] 34)) := (Fr.refl _ w5).drew.alloc _
    have bb : ∀ o, (w5.alloc o).cell? ⟨r, 2, none⟩ = some v := fun o => (HR5.out.blk.keep ((Fr.refl (fun _ => False) w5).alloc o) (fun h => h)).cell 2 rfl
    have ba : ∀ o, (w5.drew.alloc o).cell? ⟨r, 2, none⟩ = some v := fun o => (HR5.out.blk.keep ((Fr.refl (fun _ => False) w5).drew.alloc o) (fun h => h)).cell 2 rfl
    have HRow := hid (row_keep HR5.out.row h6 (fun _ _ h => h))
    have hw6 : w.heap.size ≤ w5.heap.size := HF5.out.size
    have hi0 := hid i1
    go_region_law (refine step_append_row (by rfl) (.tmp 30) (.tmp 32) 22 (by rfl) 34 i0 (.agg #[.int .i64 0, .int .i64 0, .int .i64 0]) 3 24 Try.underlying22 i1 i2 i3 i4 rfl (by decide) v H.length (H.flatMap jc) (by rfl) HRow.out ⟨w5.heap.size, 0, none⟩ 1 1 (jc (s, p, c)) (by rfl) rfl (three_new w5.drew _ _ _ _ _ rfl) (three_int s p c) (by simp only [maxLen]; omega) (by omega) ?_; intro v' w6 r1 r2 r3 _; obtain ⟨ao', cap', rfl⟩ := row_shape r1; have HR1 := hid r1; have HZ6 := hid ((HZ5.out.keep h6 (fun h => h)).keep r2 hrz.2); have HR6 := hid ((HR5.out.blk.keep h6 (fun h => h)).keep r2 HNE.out); have HD6 := hid ((HD.out.keep h6 (fun h => h)).keep r2 HDD.out.2.1); have rb2 := HR6.out.cell 2 rfl; have rbf := HR6.out.free 2; have HG := hid r3; have HF6 := hid ((HF5.out.trans h6).mono (T := fun k => k = r ∨ k ∈ footOf v) (fun _ _ h => h.elim) |>.step r2 (fun k _ h => .inr h)); clear r1 r2 r3)
    all_goals
      clear q0 q1 q2 b2 bf bb ba rb2 rbf
      have f7 : Fr (· = r) w6 (w6.setCell ⟨r, 2, none⟩ (.slice ao' (H.length + 1) cap')) := (Fr.refl _ w6).set1 2 _
      have hgz : z ≠ r := fun e => hrz.1 e.symm
      have hgd : d ≠ r := fun e => HDD.out.1 e.symm
      have hrv : r ∉ footOf (.slice ao' (H.length + 1) cap') := fun hk => by
        rcases HG.out r hk with h | h
        · exact HNE.out h
        · have h1 := HR5.out.blk.lt
          have h2 : w5.heap.size ≤ r := Nat.le_trans h6.size h
          omega
      have hkeys : ∀ j ∈ H ++ [(s, p, c)], 1 ≤ j.1 ∧ j.1 ≤ 8 ∧ 0 ≤ j.2.2 ∧ j.2.2 ≤ 9007199254740991 := fun j hj => by
        rcases List.mem_append.1 hj with h | h
        · exact HR5.out.keys j h
        · have : j = (s, p, c) := by simpa using h
          subst this; exact ⟨k4, k5, k6, k7⟩
      have hrow7 := row_keep HR1.out f7 (fun k hk e => hrv (by subst e; exact hk))
      have HRS : Hid (RS (w6.setCell ⟨r, 2, none⟩ (.slice ao' (H.length + 1) cap')) r (.slice ao' (H.length + 1) cap') N C (H ++ [(s, p, c)])) := hid ⟨HR6.out.set' 2 _ rfl, by
        rw [List.length_append, List.flatMap_append, List.flatMap_singleton]; exact hrow7, hrv, HR5.out.n0, HR5.out.n1, HR5.out.c0, HR5.out.c1, hkeys⟩
      have HF7 := hid (HF6.out.step f7 (fun k _ h => .inl h))
      have HG7 : Hid (Grows w (footOf v) (footOf (.slice ao' (H.length + 1) cap'))) := hid (fun k hk => by
        rcases HG.out k hk with h | h
        · exact .inl h
        · have h2 : w5.heap.size ≤ k := Nat.le_trans h6.size h
          exact .inr (by omega))
      have HZ7 := HZ6.out.keep f7 hgz
      have HD7 := HD6.out.keep f7 hgd
      clear hrow7 hkeys hrv hgz hgd f7 HG HR1 HR6 HZ6 HD6 HF6 h6 HR5 HZ5 HF5 HD HRow
      generalize w6.setCell ⟨r, 2, none⟩ (.slice ao' (H.length + 1) cap') = w7 at *
      have z0 := HZ7.cell 0 rfl
      have z1 := HZ7.cell 1 rfl
      have z2 := HZ7.cell 2 rfl
      have d0 := HD7.cell 0 rfl
      have d1 := HD7.cell 1 rfl
      have d2 := HD7.cell 2 rfl
      clear HZ7 HD7
      have hnq := fun W => run_neq_join W x y u s p c
      cases kn with
      | false =>
        have hq : lastR H s = none := by
          have := HW2.out
          cases hg : lastR H s with
          | none => rfl
          | some q => rw [hg] at this; cases this
        have HQ := hid hq
        clear hq
        go_wp2_with fail
        all_goals
          refine bodyPost_ret (v := .tuple #[.bool true, .bool true, .int .i64 0]) (by simp [results, Try.results12, go_sem]) rfl ⟨_, by rw [HQ.out]; rfl, HRS.out, HF7.out, HG7.out⟩
      | true =>
        have hq : lastR H s = some (x, y, u) := HW3.out rfl
        have HQ := hid hq
        clear hq
        go_wp2_with fail
        all_goals
          refine bodyPost_ret (v := .tuple #[.bool (!decide ((x, y, u) = (s, p, c))), .bool false, .int .i64 0]) (by simp [results, Try.results12, go_sem]) rfl ⟨_, by rw [HQ.out]; simp, HRS.out, HF7.out, HG7.out⟩
end Go.Proofs.Ytimfpkiknmnnmaa
