/-
  A LANE OF ONE'S OWN: its calls, side by side with the memory that was there before. Conditions: as in XLane.
-/
import Derived.Test.YtcmdjcpbidbkjaaLaneFlip
import Derived.Test.YtcmdjcpbidbkjaaLaneReach
namespace Go.Proofs.Ytcmdjcpbidbkjaa
open Go.RowKit

structure LA (w0 w : World) (g : Nat) (side : Int) (v : Value) (ds : List Dg) : Prop where
  ls : LS w g side v ds
  fr : Fr (fun _ => False) w0 w
  lo : w0.heap.size ≤ g
  ab : Above w0.heap.size (feet v ds)
theorem LA.keep {w0 w w' : World} {g : Nat} {side : Int} {v : Value} {ds : List Dg} (h : LA w0 w g side v ds) (f : Fr (fun _ => False) w w') : LA w0 w' g side v ds :=
  ⟨h.ls.keep f (fun h => h) (fun _ _ h => h), h.fr.trans f, h.lo, h.ab⟩
theorem LA.base {w0 w w' : World} {g : Nat} {side : Int} {v : Value} {ds : List Dg} (h : LA w0 w g side v ds) (f : Fr (fun _ => False) w' w0) : LA w' w g side v ds :=
  ⟨h.ls, f.trans h.fr, Nat.le_trans f.size h.lo, fun k hk => Nat.le_trans f.size (h.ab k hk)⟩
theorem lnew_c (w : World) : Calls Try.prog 7 #[] w fun e w' => ∃ g, e = .returned (.pointer (some ⟨g, 0, none⟩)) ∧ LA w w' g 0 (.slice none 0 0) [] := by
  refine (lnew_any w).mono ?_
  rintro e w' ⟨g, q1, q2, q3, q4⟩
  exact ⟨g, q1, q2, q3, q4, fun k hk => by simp [feet, footOf, Value.ownBlock] at hk⟩
theorem LA.put {w0 w w' : World} {g : Nat} {side : Int} {v v' u' : Value} {ds : List Dg} {src dst : Int} {bs : List Int} (h : LA w0 w g side v ds) (q : LS w' g side v' (ds ++ [⟨src, dst, u', bs⟩])) (f : Fr (fun k => k = g ∨ k ∈ footOf v) w w')
    (gr : Grows w (footOf v) (footOf v')) (ab : Above w.heap.size (footOf u')) : LA w0 w' g side v' (ds ++ [⟨src, dst, u', bs⟩]) := by
  have hz := h.fr.size
  refine ⟨q, h.fr.step f (fun k hk hm => ?_), h.lo, fun k hk => ?_⟩
  · rcases hm with rfl | hm
    · have := h.lo; omega
    · have := h.ab k (mem_feet.2 (.inl hm)); omega
  · rcases mem_feet.1 hk with h1 | ⟨d, hd, h1⟩
    · rcases gr k h1 with h2 | h2
      · exact h.ab k (mem_feet.2 (.inl h2))
      · omega
    · rcases List.mem_append.1 hd with hd | hd
      · exact h.ab k (mem_feet.2 (.inr ⟨d, hd, h1⟩))
      · simp at hd; subst hd
        have := ab k h1; omega
theorem lput_c {w0 : World} {g : Nat} {side : Int} {v : Value} {ds : List Dg} (src dst : Int) (u : Value) (bs : List Int) (w : World) (h : LA w0 w g side v ds) (hu : Vw .u8 w u bs) (ha : AllB bs) (hl : bs.length ≤ 140737488355328) (h1 : nodeB src = true) (h2 : nodeB dst = true) (hn : ds.length < 4096) :
    Calls Try.prog 10 #[.pointer (some ⟨g, 0, none⟩), .agg #[.int .i64 src, .int .i64 dst, u]] w fun e w' => ∃ v' u', e = .returned (.int .i64 0) ∧ LA w0 w' g side v' (ds ++ [⟨src, dst, u', bs⟩]) := by
  refine (lput_good src dst u bs w h.ls hu ha hl h1 h2 hn).mono ?_
  rintro e w' ⟨v', u', q1, q2, q3, q4, q5⟩
  exact ⟨v', u', q1, h.put q2 q3 q4 q5⟩
theorem ldouble_c {w0 : World} {g : Nat} {side : Int} {v : Value} {ds : List Dg} (i : Nat) (d : Dg) (w : World) (h : LA w0 w g side v ds) (hd : ds[i]? = some d) (h1 : nodeB d.src = true) (h2 : nodeB d.dst = true) (hn : ds.length < 4096) :
    Calls Try.prog 16 #[.pointer (some ⟨g, 0, none⟩), .int .i64 (i : Int)] w fun e w' => ∃ v' u', e = .returned (.int .i64 0) ∧ LA w0 w' g side v' (ds ++ [⟨d.src, d.dst, u', d.bs⟩]) := by
  have hg := h.ls.dr.dg d (List.mem_of_getElem? hd)
  refine ldouble_at i d w h.ls hd ((lput_c d.src d.dst d.v d.bs w h (Vw.of_row hg.row) hg.ab hg.len h1 h2 hn).mono ?_)
  rintro e w' ⟨v', u', q1, q2⟩
  exact ⟨⟨0, q1⟩, v', u', q1, q2⟩
theorem lflip_c {w0 : World} {g : Nat} {side : Int} {v : Value} {ds : List Dg} (i p : Nat) (d : Dg) (w : World) (h : LA w0 w g side v ds) (hd : ds[i]? = some d) (hb : p / 8 < d.bs.length) (hp : p ≤ 9223372036854775807) :
    Calls Try.prog 18 #[.pointer (some ⟨g, 0, none⟩), .int .i64 (i : Int), .int .i64 (p : Int)] w fun e w' => e = .returned (.int .i64 0) ∧ LA w0 w' g side v (ds.set i ⟨d.src, d.dst, d.v, d.bs.set (p / 8) (xbit (d.bs.getD (p / 8) 0) (p % 8))⟩) ∧ Fr (· ∈ footOf d.v) w w' := by
  refine (lflip_good i p d w h.ls hd hb hp).mono ?_
  rintro e w' ⟨q1, q2, q3⟩
  have hz := h.fr.size
  have hdm : d ∈ ds := List.mem_of_getElem? hd
  refine ⟨q1, ⟨q2, h.fr.step q3 (fun k hk hm => ?_), h.lo, fun k hk => ?_⟩, q3⟩
  · have := h.ab k (mem_feet.2 (.inr ⟨d, hdm, hm⟩)); omega
  · rcases mem_feet.1 hk with h1 | ⟨x, hx, h1⟩
    · exact h.ab k (mem_feet.2 (.inl h1))
    · rcases List.mem_or_eq_of_mem_set hx with hx | hx
      · exact h.ab k (mem_feet.2 (.inr ⟨x, hx, h1⟩))
      · subst hx; exact h.ab k (mem_feet.2 (.inr ⟨d, hdm, h1⟩))
theorem ltake_c {w0 : World} {g : Nat} {side : Int} {v : Value} {ds : List Dg} (i : Nat) (d : Dg) (w : World) (h : LA w0 w g side v ds) (hd : ds[i]? = some d) :
    Calls Try.prog 13 #[.pointer (some ⟨g, 0, none⟩), .int .i64 (i : Int)] w fun e w' => ∃ v', e = .returned (.tuple #[.agg #[.int .i64 d.src, .int .i64 d.dst, d.v], .int .i64 0]) ∧ LA w0 w' g side v' (ds.eraseIdx i) ∧ DgIs w' d ∧ g ∉ footOf d.v ∧ Disj (footOf v') (footOf d.v) ∧ (∀ x ∈ ds.eraseIdx i, Disj (footOf x.v) (footOf d.v)) ∧ Above w0.heap.size (footOf d.v) ∧ Fr (fun k => k = g ∨ k ∈ footOf v) w w' ∧ footOf v' = footOf v := by
  have hil : i < ds.length := (List.getElem?_eq_some_iff.1 hd).1
  have hdi : ds[i] = d := (List.getElem?_eq_some_iff.1 hd).2
  have hdm : d ∈ ds := List.mem_of_getElem? hd
  refine (ltake_good i d w h.ls hil hd).mono ?_
  rintro e w' ⟨v', q1, q2, q3, q4⟩
  have hz := h.fr.size
  have hng : g ∉ footOf d.v := fun hk => h.ls.dr.not_foot h.ls.blk (by decide) (by decide) (mem_feet.2 (.inr ⟨d, hdm, hk⟩))
  refine ⟨v', q1, ⟨q2, h.fr.step q3 (fun k hk hm => ?_), h.lo, fun k hk => ?_⟩, (h.ls.dr.dg d hdm).keep q3 (fun k hk hm => ?_), hng, ?_, ?_, fun k hk => h.ab k (mem_feet.2 (.inr ⟨d, hdm, hk⟩)), q3, q4⟩
  · rcases hm with rfl | hm
    · have := h.lo; omega
    · have := h.ab k (mem_feet.2 (.inl hm)); omega
  · rcases mem_feet.1 hk with h1 | ⟨x, hx, h1⟩
    · rw [q4] at h1; exact h.ab k (mem_feet.2 (.inl h1))
    · exact h.ab k (mem_feet.2 (.inr ⟨x, List.mem_of_mem_eraseIdx hx, h1⟩))
  · rcases hm with rfl | hm
    · exact hng hk
    · exact h.ls.dr.apart hdm k hm hk
  · rw [q4]; exact h.ls.dr.apart hdm
  · intro x hx
    obtain ⟨j, hj, hij, rfl⟩ : ∃ j, ∃ hj : j < ds.length, j ≠ i ∧ ds[j] = x := by
      obtain ⟨k, hk, hkx⟩ := List.mem_iff_getElem.1 hx
      rw [List.getElem_eraseIdx] at hkx
      split at hkx
      · exact ⟨k, by omega, by omega, hkx⟩
      · rw [List.length_eraseIdx, if_pos hil] at hk
        exact ⟨k + 1, by omega, by omega, hkx⟩
    have hsep := List.pairwise_iff_getElem.1 h.ls.dr.sep
    intro k hk hk'
    rcases Nat.lt_or_gt_of_ne hij with hlt | hlt
    · exact hsep j i hj hil hlt k hk (by rw [hdi]; exact hk')
    · exact hsep i j hil hj hlt k (by rw [hdi]; exact hk') hk
theorem lcut_c {w0 : World} {g : Nat} {side : Int} {v : Value} {ds : List Dg} (s : Int) (w : World) (h : LA w0 w g side v ds) : Calls Try.prog 20 #[.pointer (some ⟨g, 0, none⟩), .int .i64 s] w fun e w' => e = .returned (.int .i64 0) ∧ LA w0 w' g s v ds ∧ Fr (· = g) w w' := by
  refine (lcut_any s w h.ls).mono ?_
  rintro e w' ⟨q1, q2, q3⟩
  have hz := h.fr.size
  exact ⟨q1, ⟨q2, h.fr.step q3 (fun k hk hm => by have := h.lo; omega), h.lo, h.ab⟩, q3⟩
theorem lreach_c {w0 : World} {g : Nat} {side : Int} {v : Value} {ds : List Dg} (a b : Int) (r : Bool) (w : World) (h : LA w0 w g side v ds) (hr : reachB side a b = r) : Calls Try.prog 24 #[.pointer (some ⟨g, 0, none⟩), .int .i64 a, .int .i64 b] w fun e w' => e = .returned (.bool r) ∧ ∃ m, w' = w.drewN m := by
  rw [← hr]; exact lreach_any a b w h.ls
theorem llen_c {w0 : World} {g : Nat} {side : Int} {v : Value} {ds : List Dg} (n : Int) (w : World) (h : LA w0 w g side v ds) (hn : (ds.length : Int) = n) : Calls Try.prog 22 #[.pointer (some ⟨g, 0, none⟩)] w fun e w' => e = .returned (.int .i64 n) ∧ w = w' := by
  rw [← hn]; exact llen_any w h.ls
theorem is_c (src dst : Int) (u v : Value) (ys zs : List Int) (w : World) (hu : Vw .u8 w u ys) (hv : Vw .u8 w v zs) (ha : AllB ys) (hb : AllB zs) :
    Calls Try.prog 28 #[.agg #[.int .i64 src, .int .i64 dst, u], .int .i64 src, .int .i64 dst, v] w fun e w' => e = .returned (.bool (decide (ys = zs))) ∧ Fr (fun _ => False) w w' := by
  obtain ⟨uo, uc, rfl, _⟩ := id hu
  have f1 : Fr (fun _ => False) w (w.alloc (.cells #[.int .i64 src, .int .i64 dst, .slice uo ys.length uc] 30)) := (Fr.refl _ _).alloc _
  have HP := hid (Blk.new w #[.int .i64 src, .int .i64 dst, .slice uo ys.length uc] 30)
  have HE := hid (eqBytes_any _ v ys zs _ (hu.keep0 f1) (hv.keep0 f1) ha hb)
  have HF := hid f1
  have p0 := HP.out.cell 0 rfl
  have p1 := HP.out.cell 1 rfl
  have p2 := HP.out.cell 2 rfl
  clear hu hv ha hb f1
  go_enter Try.func28, Try.ntmps28
  go_wp2_with fail
  refine HE.out.mono ?_
  rintro e w2 ⟨rfl, f⟩
  have HF2 := hid (HF.out.trans f)
  clear f
  go_wp2_with fail
  go_ret
  exact ⟨rfl, HF2.out⟩
end Go.Proofs.Ytcmdjcpbidbkjaa
