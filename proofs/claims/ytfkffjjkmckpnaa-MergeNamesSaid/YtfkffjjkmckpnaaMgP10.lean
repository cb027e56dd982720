/-
  THE DOCUMENT'S MERGE (ch 25): Change. Conditions: fewer than 100000 items.
-/
import Derived.Test.YtfkffjjkmckpnaaMgP9
namespace Go.Proofs.Ytfkffjjkmckpnaa
open Go.RowKit Go.ChangeShapes Go.WideShapes Go.Deep

set_option linter.unusedSimpArgs false
set_option maxRecDepth 100000
theorem aggKeys9 : AggT Try.prog 89 36 := ⟨⟨_, Try.underlying89, rfl⟩, by kernel_rfl⟩
theorem aggRows9 : AggT Try.prog 90 9 := ⟨⟨_, Try.underlying90, rfl⟩, by kernel_rfl⟩
def keys9 (k : Ky) : Array Value := #[.int .i64 k.s, .int .i64 k.r, .int .i64 k.p, .int .i64 k.q, .int .i64 k.s, .int .i64 k.r, .int .i64 k.p, .int .i64 k.q, .int .i64 k.s, .int .i64 k.r, .int .i64 k.p, .int .i64 k.q, .int .i64 k.s, .int .i64 k.r, .int .i64 k.p, .int .i64 k.q, .int .i64 k.s, .int .i64 k.r, .int .i64 k.p, .int .i64 k.q, .int .i64 k.s, .int .i64 k.r, .int .i64 k.p, .int .i64 k.q, .int .i64 k.s, .int .i64 k.r, .int .i64 k.p, .int .i64 k.q, .int .i64 k.s, .int .i64 k.r, .int .i64 k.p, .int .i64 k.q, .int .i64 k.s, .int .i64 k.r, .int .i64 k.p, .int .i64 k.q]
def rows9 : Array Value := #[.slice none 0 0, .slice none 0 0, .slice none 0 0, .slice none 0 0, .slice none 0 0, .slice none 0 0, .slice none 0 0, .slice none 0 0, .slice none 0 0]
theorem one_keys9 (k : Ky) : ∀ u ∈ (Value.agg #[.int .i64 k.s, .int .i64 k.r, .int .i64 k.p, .int .i64 k.q, .int .i64 k.s, .int .i64 k.r, .int .i64 k.p, .int .i64 k.q, .int .i64 k.s, .int .i64 k.r, .int .i64 k.p, .int .i64 k.q, .int .i64 k.s, .int .i64 k.r, .int .i64 k.p, .int .i64 k.q, .int .i64 k.s, .int .i64 k.r, .int .i64 k.p, .int .i64 k.q, .int .i64 k.s, .int .i64 k.r, .int .i64 k.p, .int .i64 k.q, .int .i64 k.s, .int .i64 k.r, .int .i64 k.p, .int .i64 k.q, .int .i64 k.s, .int .i64 k.r, .int .i64 k.p, .int .i64 k.q, .int .i64 k.s, .int .i64 k.r, .int .i64 k.p, .int .i64 k.q]).cells.toList, u.oneCell' = true := List.all_eq_true.1 (by rfl)
theorem one_rows9 : ∀ u ∈ (Value.agg #[.slice none 0 0, .slice none 0 0, .slice none 0 0, .slice none 0 0, .slice none 0 0, .slice none 0 0, .slice none 0 0, .slice none 0 0, .slice none 0 0]).cells.toList, u.oneCell' = true := List.all_eq_true.1 (by rfl)
theorem refA_fl9 (n : Int) (k : Ky) (fl : Nat → Ky) (lv : Nat → Value) (la : Ky) : ((refA n fl lv la).toList.take 1 ++ (Value.agg #[.int .i64 k.s, .int .i64 k.r, .int .i64 k.p, .int .i64 k.q, .int .i64 k.s, .int .i64 k.r, .int .i64 k.p, .int .i64 k.q, .int .i64 k.s, .int .i64 k.r, .int .i64 k.p, .int .i64 k.q, .int .i64 k.s, .int .i64 k.r, .int .i64 k.p, .int .i64 k.q, .int .i64 k.s, .int .i64 k.r, .int .i64 k.p, .int .i64 k.q, .int .i64 k.s, .int .i64 k.r, .int .i64 k.p, .int .i64 k.q, .int .i64 k.s, .int .i64 k.r, .int .i64 k.p, .int .i64 k.q, .int .i64 k.s, .int .i64 k.r, .int .i64 k.p, .int .i64 k.q, .int .i64 k.s, .int .i64 k.r, .int .i64 k.p, .int .i64 k.q]).cells.toList ++ (refA n fl lv la).toList.drop (1 + 36)).toArray = refA n (fun _ => k) lv la := rfl
theorem refA_lv9 (n : Int) (k : Ky) (lv : Nat → Value) (la : Ky) : ((refA n (fun _ => k) lv la).toList.take 37 ++ (Value.agg #[.slice none 0 0, .slice none 0 0, .slice none 0 0, .slice none 0 0, .slice none 0 0, .slice none 0 0, .slice none 0 0, .slice none 0 0, .slice none 0 0]).cells.toList ++ (refA n (fun _ => k) lv la).toList.drop (37 + 9)).toArray = refA n (fun _ => k) (fun _ => .slice none 0 0) la := rfl
theorem refA_la9 (n : Int) (k : Ky) (fl : Nat → Ky) (lv : Nat → Value) (la : Ky) : ((refA n fl lv la).toList.take 46 ++ (Value.agg #[.int .i64 k.s, .int .i64 k.r, .int .i64 k.p, .int .i64 k.q]).cells.toList ++ (refA n fl lv la).toList.drop (46 + 4)).toArray = refA n fl lv k := rfl
section
variable {w0 : World} {q st : Nat} {fl : Nat → Ky} {lv : Nat → Value} {L : Nat → List It} {la : Ky}
theorem rchange_bad (n : Int) (kf : Ky) (h : RG w0 q st fl lv L la) (h0 : -9223372036854775808 ≤ n) (h1 : n ≤ 9223372036854775807) (hb : okS n = false ∨ kf.ok = false) : Calls Try.prog 45 #[.pointer (some ⟨q, 0, none⟩), .int .i64 n, kf.agg] w0 fun e w' => e = .returned (.tuple #[.slice none 0 0, .int .i64 2]) ∧ Fr (fun _ => False) w0 w' := by
  have HN := hid (fun W => rnew_bad n kf W h0 h1 hb)
  unfold Ky.agg at HN
  unfold Ky.agg
  clear h0 h1 hb h
  go_enter Try.func45, Try.ntmps45
  go_wp2_with (refine wpList_boxed rfl 32 _ rfl #[.int .i64 kf.s, .int .i64 kf.r, .int .i64 kf.p, .int .i64 kf.q] rfl ?_)
  intro b w1 hb B1 f1 z1
  have HF1 := hid f1
  have HB1 := hid B1
  clear hb B1 f1 z1
  have c0 := HB1.out.cell 0 rfl
  have c1 := HB1.out.cell 1 rfl
  have c2 := HB1.out.cell 2 rfl
  have c3 := HB1.out.cell 3 rfl
  go_wp2_with fail
  with_reducible refine (HN.out _).mono ?_
  rintro e w2 ⟨rfl, f2⟩
  have HF2 := hid (HF1.out.trans f2)
  clear f2 c0 c1 c2 c3 HN HB1 HF1
  go_wp2_with fail
  refine wp_region_held_drew (S := fun _ => True) (by kernel_rfl) (trivial) (fun hHeld => ?_)
  refine wpAnyH_take (i := 0) (v := ?_) rfl (by kernel_rfl) (by kernel_rfl) (by kernel_rfl) (fun _ _ _ h => h) (Or.inl ⟨by rfl, ?_⟩) hHeld ?_
  rotate_left 1
  · (intro w hSw; (try dsimp only at hSw); go_simp <;> with_reducible rfl)
  try simp only [Act.put, List.setIfInBounds_toArray, List.set_cons_zero, List.set_cons_succ, List.getElem_toArray, List.getElem_cons_succ, List.getElem_cons_zero]
  refine wpAnyH_take (i := 1) (v := ?_) rfl (by kernel_rfl) (by kernel_rfl) (by kernel_rfl) (fun _ _ _ h => h) (Or.inl ⟨by rfl, ?_⟩) hHeld ?_
  rotate_left 1
  · (intro w hSw; (try dsimp only at hSw); go_simp <;> with_reducible rfl)
  try simp only [Act.put, List.setIfInBounds_toArray, List.set_cons_zero, List.set_cons_succ, List.getElem_toArray, List.getElem_cons_succ, List.getElem_cons_zero]
  refine wpAnyH_take (i := 2) (v := ?_) rfl (by kernel_rfl) (by kernel_rfl) (by kernel_rfl) (fun _ _ _ h => h) (Or.inl ⟨by rfl, ?_⟩) hHeld ?_
  rotate_left 1
  · (intro w hSw; (try dsimp only at hSw); go_simp <;> with_reducible rfl)
  try simp only [Act.put, List.setIfInBounds_toArray, List.set_cons_zero, List.set_cons_succ, List.getElem_toArray, List.getElem_cons_succ, List.getElem_cons_zero]
  refine wpAnyH_take (i := 3) (v := undef) rfl (by kernel_rfl) (by kernel_rfl) (by kernel_rfl) (fun _ _ _ h => h) (Or.inr ⟨by rfl, rfl⟩) hHeld ?_
  try simp only [Act.put, List.setIfInBounds_toArray, List.set_cons_zero, List.set_cons_succ, List.getElem_toArray, List.getElem_cons_succ, List.getElem_cons_zero]
  refine wpAnyH_take (i := 4) (v := undef) rfl (by kernel_rfl) (by kernel_rfl) (by kernel_rfl) (fun _ _ _ h => h) (Or.inr ⟨by rfl, rfl⟩) hHeld ?_
  try simp only [Act.put, List.setIfInBounds_toArray, List.set_cons_zero, List.set_cons_succ, List.getElem_toArray, List.getElem_cons_succ, List.getElem_cons_zero]
  refine wpAnyH_take (i := 5) (v := undef) rfl (by kernel_rfl) (by kernel_rfl) (by kernel_rfl) (fun _ _ _ h => h) (Or.inr ⟨by rfl, rfl⟩) hHeld ?_
  try simp only [Act.put, List.setIfInBounds_toArray, List.set_cons_zero, List.set_cons_succ, List.getElem_toArray, List.getElem_cons_succ, List.getElem_cons_zero]
  refine wpAnyH_take (i := 6) (v := undef) rfl (by kernel_rfl) (by kernel_rfl) (by kernel_rfl) (fun _ _ _ h => h) (Or.inr ⟨by rfl, rfl⟩) hHeld ?_
  try simp only [Act.put, List.setIfInBounds_toArray, List.set_cons_zero, List.set_cons_succ, List.getElem_toArray, List.getElem_cons_succ, List.getElem_cons_zero]
  refine wpAnyH_take (i := 7) (v := undef) rfl (by kernel_rfl) (by kernel_rfl) (by kernel_rfl) (fun _ _ _ h => h) (Or.inr ⟨by rfl, rfl⟩) hHeld ?_
  try simp only [Act.put, List.setIfInBounds_toArray, List.set_cons_zero, List.set_cons_succ, List.getElem_toArray, List.getElem_cons_succ, List.getElem_cons_zero]
  refine wpAnyH_take (i := 8) (v := undef) rfl (by kernel_rfl) (by kernel_rfl) (by kernel_rfl) (fun _ _ _ h => h) (Or.inr ⟨by rfl, rfl⟩) hHeld ?_
  try simp only [Act.put, List.setIfInBounds_toArray, List.set_cons_zero, List.set_cons_succ, List.getElem_toArray, List.getElem_cons_succ, List.getElem_cons_zero]
  refine wpAnyH_take (i := 9) (v := undef) rfl (by kernel_rfl) (by kernel_rfl) (by kernel_rfl) (fun _ _ _ h => h) (Or.inr ⟨by rfl, rfl⟩) hHeld ?_
  try simp only [Act.put, List.setIfInBounds_toArray, List.set_cons_zero, List.set_cons_succ, List.getElem_toArray, List.getElem_cons_succ, List.getElem_cons_zero]
  refine wpAnyH_take (i := 10) (v := ?_) rfl (by kernel_rfl) (by kernel_rfl) (by kernel_rfl) (fun _ _ _ h => h) (Or.inl ⟨by rfl, ?_⟩) hHeld ?_
  rotate_left 1
  · (intro w hSw; (try dsimp only at hSw); go_simp <;> with_reducible rfl)
  try simp only [Act.put, List.setIfInBounds_toArray, List.set_cons_zero, List.set_cons_succ, List.getElem_toArray, List.getElem_cons_succ, List.getElem_cons_zero]
  refine wpAnyH_done (by kernel_rfl) ?_ _
  clear hHeld
  go_wp2_with fail
  go_ret2
  exact ⟨rfl, HF2.out.trans (Fr.refl _ _).drew⟩
theorem rchange_low (n : Nat) (kf : Ky) (h : RG w0 q st fl lv L la) (h5 : n ≤ 511) (h1 : n % 2 = 1) (hk : kf.ok = true) (hc : kc kf la < 0) : Calls Try.prog 45 #[.pointer (some ⟨q, 0, none⟩), .int .i64 (n : Int), kf.agg] w0 fun e w' => e = .returned (.tuple #[.slice none 0 0, .int .i64 2]) ∧ Fr (fun _ => False) w0 w' := by
  have HN := hid (fun W => rnew_ok n kf W h5 h1 hk)
  unfold Ky.agg at HN
  have HG := hid h
  have HH5 := hid h5
  have HKC := hid (fun W => rkeys_any kf.s kf.r kf.p kf.q la.s la.r la.p la.q W)
  rw [show kcmp kf.s kf.r kf.p kf.q la.s la.r la.p la.q = kc kf la from rfl] at HKC
  obtain ⟨C, hC⟩ : ∃ C, kc kf la = C := ⟨_, rfl⟩
  rw [hC] at HKC hc
  unfold Ky.agg
  clear h h5 h1 hk hC
  go_enter Try.func45, Try.ntmps45
  go_wp2_with (refine wpList_boxed rfl 32 _ rfl #[.int .i64 kf.s, .int .i64 kf.r, .int .i64 kf.p, .int .i64 kf.q] rfl ?_)
  intro b w1 hb B1 f1 z1
  have HF1 := hid f1
  have HB1 := hid B1
  have HBQ : Hid (b ≠ q) := hid (by have := HG.out.blk.lt; omega)
  clear hb B1 f1 z1
  have c0 := HB1.out.cell 0 rfl
  have c1 := HB1.out.cell 1 rfl
  have c2 := HB1.out.cell 2 rfl
  have c3 := HB1.out.cell 3 rfl
  go_wp2_with fail
  with_reducible refine (HN.out _).mono ?_
  rintro e w2 ⟨qn, rfl, hqn, hge, f2⟩
  have HQ2 := hid hqn
  have HF2 := hid (HF1.out.trans f2)
  have HB2 := hid (HB1.out.keep f2 (fun h => h))
  have HG2 := hid (HG.out.keep0 HF2.out)
  have HQQ : Hid (qn ≠ q) := hid (by have h1 := HG.out.blk.lt; have h2 := HF1.out.size; omega)
  clear f2 c0 c1 c2 c3 HN HB1 HF1 hqn hge
  have PS : Hid (∀ W, Fr (fun _ => False) w2 W → W.cell? ⟨b, 0, none⟩ = some (.int .i64 kf.s) ∧ W.cell? ⟨b, 1, none⟩ = some (.int .i64 kf.r) ∧ W.cell? ⟨b, 2, none⟩ = some (.int .i64 kf.p) ∧ W.cell? ⟨b, 3, none⟩ = some (.int .i64 kf.q) ∧ W.cell? ⟨q, 46, none⟩ = some (.int .i64 la.s) ∧ W.cell? ⟨q, 47, none⟩ = some (.int .i64 la.r) ∧ W.cell? ⟨q, 48, none⟩ = some (.int .i64 la.p) ∧ W.cell? ⟨q, 49, none⟩ = some (.int .i64 la.q)) := hid (fun W f => by
    have a := HB2.out.keep f (fun h => h)
    have g := HG2.out.blk.keep f (fun h => h)
    exact ⟨a.cell 0 rfl, a.cell 1 rfl, a.cell 2 rfl, a.cell 3 rfl, g.cell 46 rfl, g.cell 47 rfl, g.cell 48 rfl, g.cell 49 rfl⟩)
  have f0 : Fr (fun _ => False) w2 w2.drew := (Fr.refl _ _).drew
  have d1 : decide (C < 0) = true := decide_eq_true hc
  clear hc
  go_wp2_with fail
  refine wp_region_held_drew (S := fun W => W.cell? ⟨b, 0, none⟩ = some (.int .i64 kf.s) ∧ W.cell? ⟨b, 1, none⟩ = some (.int .i64 kf.r) ∧ W.cell? ⟨b, 2, none⟩ = some (.int .i64 kf.p) ∧ W.cell? ⟨b, 3, none⟩ = some (.int .i64 kf.q) ∧ W.cell? ⟨q, 46, none⟩ = some (.int .i64 la.s) ∧ W.cell? ⟨q, 47, none⟩ = some (.int .i64 la.r) ∧ W.cell? ⟨q, 48, none⟩ = some (.int .i64 la.p) ∧ W.cell? ⟨q, 49, none⟩ = some (.int .i64 la.q)) (by kernel_rfl) (PS.out _ f0) (fun hHeld => ?_)
  refine wpAnyH_take (i := 0) (v := ?_) rfl (by kernel_rfl) (by kernel_rfl) (by kernel_rfl) (fun _ _ _ h => h) (Or.inl ⟨by rfl, ?_⟩) hHeld ?_
  rotate_left 1
  · (intro w hSw; (try dsimp only at hSw); go_simp <;> with_reducible rfl)
  try simp only [Act.put, List.setIfInBounds_toArray, List.set_cons_zero, List.set_cons_succ, List.getElem_toArray, List.getElem_cons_succ, List.getElem_cons_zero]
  refine wpAnyH_take (i := 1) (v := ?_) rfl (by kernel_rfl) (by kernel_rfl) (by kernel_rfl) (fun _ _ _ h => h) (Or.inl ⟨by rfl, ?_⟩) hHeld ?_
  rotate_left 1
  · (intro w hSw; (try dsimp only at hSw); go_simp <;> with_reducible rfl)
  try simp only [Act.put, List.setIfInBounds_toArray, List.set_cons_zero, List.set_cons_succ, List.getElem_toArray, List.getElem_cons_succ, List.getElem_cons_zero]
  refine wpAnyH_take (i := 2) (v := ?_) rfl (by kernel_rfl) (by kernel_rfl) (by kernel_rfl) (fun _ _ _ h => h) (Or.inl ⟨by rfl, ?_⟩) hHeld ?_
  rotate_left 1
  · (intro w hSw; (try dsimp only at hSw); go_simp <;> with_reducible rfl)
  try simp only [Act.put, List.setIfInBounds_toArray, List.set_cons_zero, List.set_cons_succ, List.getElem_toArray, List.getElem_cons_succ, List.getElem_cons_zero]
  refine wpAnyH_take (i := 3) (v := ?_) rfl (by kernel_rfl) (by kernel_rfl) (by kernel_rfl) (fun _ _ _ h => h) (Or.inl ⟨by rfl, ?_⟩) hHeld ?_
  rotate_left 1
  · (intro w hSw; (try dsimp only at hSw); go_simp <;> with_reducible rfl)
  try simp only [Act.put, List.setIfInBounds_toArray, List.set_cons_zero, List.set_cons_succ, List.getElem_toArray, List.getElem_cons_succ, List.getElem_cons_zero]
  refine wpAnyH_take (i := 4) (v := ?_) rfl (by kernel_rfl) (by kernel_rfl) (by kernel_rfl) (fun _ _ _ h => h) (Or.inl ⟨by rfl, ?_⟩) hHeld ?_
  rotate_left 1
  · (intro w hSw; (try dsimp only at hSw); go_simp <;> with_reducible rfl)
  try simp only [Act.put, List.setIfInBounds_toArray, List.set_cons_zero, List.set_cons_succ, List.getElem_toArray, List.getElem_cons_succ, List.getElem_cons_zero]
  refine wpAnyH_take (i := 5) (v := ?_) rfl (by kernel_rfl) (by kernel_rfl) (by kernel_rfl) (fun _ _ _ h => h) (Or.inl ⟨by rfl, ?_⟩) hHeld ?_
  rotate_left 1
  · (intro w hSw; (try dsimp only at hSw); go_simp <;> with_reducible rfl)
  try simp only [Act.put, List.setIfInBounds_toArray, List.set_cons_zero, List.set_cons_succ, List.getElem_toArray, List.getElem_cons_succ, List.getElem_cons_zero]
  refine wpAnyH_take (i := 6) (v := ?_) rfl (by kernel_rfl) (by kernel_rfl) (by kernel_rfl) (fun _ _ _ h => h) (Or.inl ⟨by rfl, ?_⟩) hHeld ?_
  rotate_left 1
  · (intro w hSw; (try dsimp only at hSw); go_simp <;> with_reducible rfl)
  try simp only [Act.put, List.setIfInBounds_toArray, List.set_cons_zero, List.set_cons_succ, List.getElem_toArray, List.getElem_cons_succ, List.getElem_cons_zero]
  refine wpAnyH_take (i := 7) (v := ?_) rfl (by kernel_rfl) (by kernel_rfl) (by kernel_rfl) (fun _ _ _ h => h) (Or.inl ⟨by rfl, ?_⟩) hHeld ?_
  rotate_left 1
  · (intro w hSw; (try dsimp only at hSw); go_simp <;> with_reducible rfl)
  try simp only [Act.put, List.setIfInBounds_toArray, List.set_cons_zero, List.set_cons_succ, List.getElem_toArray, List.getElem_cons_succ, List.getElem_cons_zero]
  refine wpAnyH_ready (rs := [8]) (by kernel_rfl) (by simp) ?_
  refine AllReadyH.cons rfl (fun K hK => ?_) AllReadyH.nil
  clear hHeld
  go_simp
  go_at_call 56
  refine (HKC.out _).mono ?_
  rintro e w9 ⟨rfl, hacc⟩
  have f9 := f0.trans hacc
  clear hacc
  refine hK.out _ _ (PS.out _ f9) (fun hHeld => ?_)
  clear hK K
  try simp only [Act.put, List.setIfInBounds_toArray, List.set_cons_zero, List.set_cons_succ, List.getElem_toArray, List.getElem_cons_succ, List.getElem_cons_zero]
  refine wpAnyH_take (i := 9) (v := ?_) rfl (by kernel_rfl) (by kernel_rfl) (by kernel_rfl) (fun _ _ _ h => h) (Or.inl ⟨by rfl, ?_⟩) hHeld ?_
  rotate_left 1
  · (intro w hSw; (try dsimp only at hSw); go_simp <;> with_reducible rfl)
  try simp only [Act.put, List.setIfInBounds_toArray, List.set_cons_zero, List.set_cons_succ, List.getElem_toArray, List.getElem_cons_succ, List.getElem_cons_zero]
  refine wpAnyH_take (i := 10) (v := ?_) rfl (by kernel_rfl) (by kernel_rfl) (by kernel_rfl) (fun _ _ _ h => h) (Or.inl ⟨by rfl, ?_⟩) hHeld ?_
  rotate_left 1
  · (intro w hSw; (try dsimp only at hSw); go_simp <;> with_reducible rfl)
  try simp only [Act.put, List.setIfInBounds_toArray, List.set_cons_zero, List.set_cons_succ, List.getElem_toArray, List.getElem_cons_succ, List.getElem_cons_zero]
  refine wpAnyH_done (by kernel_rfl) ?_ _
  clear hHeld
  go_wp2_with fail
  go_ret2
  exact ⟨rfl, HF2.out.trans f9⟩
set_option maxHeartbeats 4000000 in
theorem rchange_ok (n : Nat) (kf : Ky) (h : RG w0 q st fl lv L la) (h5 : n ≤ 511) (h1 : n % 2 = 1) (hk : kf.ok = true) (hc : ¬ kc kf la < 0) (hcnt : cntS (rS st fl L) < 100000) : Calls Try.prog 45 #[.pointer (some ⟨q, 0, none⟩), .int .i64 (n : Int), kf.agg] w0 fun e w' => ∃ v' S' la' out i, e = .returned (.tuple #[v', .int .i64 0]) ∧ itS (mayC kf) i ⟨rS st fl L, la, []⟩ = ⟨S', la', out.map (fun x : It => x.x)⟩ ∧ nextS (mayC kf) ⟨S', la', out.map (fun x : It => x.x)⟩ = none ∧ RG w' q n (fun _ => kf) (fun _ => .slice none 0 0) (fun _ => []) kf ∧ Its w' v' out ∧ (∀ b, b ∈ footOf v' → w0.heap.size ≤ b) ∧ (∀ x ∈ out, ∃ i, i < 9 ∧ x ∈ L i) ∧ Fr (· = q) w0 w' := by
  have HCN := hid hcnt
  clear hcnt
  have HN := hid (fun W => rnew_ok n kf W h5 h1 hk)
  unfold Ky.agg at HN
  have HG := hid h
  have HH5 := hid h5
  have HKC := hid (fun W => rkeys_any kf.s kf.r kf.p kf.q la.s la.r la.p la.q W)
  rw [show kcmp kf.s kf.r kf.p kf.q la.s la.r la.p la.q = kc kf la from rfl] at HKC
  obtain ⟨C, hC⟩ : ∃ C, kc kf la = C := ⟨_, rfl⟩
  rw [hC] at HKC hc
  unfold Ky.agg
  clear h h5 h1 hk hC
  go_enter Try.func45, Try.ntmps45
  go_wp2_with (refine wpList_boxed rfl 32 _ rfl #[.int .i64 kf.s, .int .i64 kf.r, .int .i64 kf.p, .int .i64 kf.q] rfl ?_)
  intro b w1 hb B1 f1 z1
  have HF1 := hid f1
  have HB1 := hid B1
  have HBQ : Hid (b ≠ q) := hid (by have := HG.out.blk.lt; omega)
  clear hb B1 f1 z1
  have c0 := HB1.out.cell 0 rfl
  have c1 := HB1.out.cell 1 rfl
  have c2 := HB1.out.cell 2 rfl
  have c3 := HB1.out.cell 3 rfl
  go_wp2_with fail
  with_reducible refine (HN.out _).mono ?_
  rintro e w2 ⟨qn, rfl, hqn, hge, f2⟩
  have HQ2 := hid hqn
  have HF2 := hid (HF1.out.trans f2)
  have HB2 := hid (HB1.out.keep f2 (fun h => h))
  have HG2 := hid (HG.out.keep0 HF2.out)
  have HQQ : Hid (qn ≠ q) := hid (by have h1 := HG.out.blk.lt; have h2 := HF1.out.size; omega)
  clear f2 c0 c1 c2 c3 HN HB1 HF1 hqn hge
  have PS : Hid (∀ W, Fr (fun _ => False) w2 W → W.cell? ⟨b, 0, none⟩ = some (.int .i64 kf.s) ∧ W.cell? ⟨b, 1, none⟩ = some (.int .i64 kf.r) ∧ W.cell? ⟨b, 2, none⟩ = some (.int .i64 kf.p) ∧ W.cell? ⟨b, 3, none⟩ = some (.int .i64 kf.q) ∧ W.cell? ⟨q, 46, none⟩ = some (.int .i64 la.s) ∧ W.cell? ⟨q, 47, none⟩ = some (.int .i64 la.r) ∧ W.cell? ⟨q, 48, none⟩ = some (.int .i64 la.p) ∧ W.cell? ⟨q, 49, none⟩ = some (.int .i64 la.q)) := hid (fun W f => by
    have a := HB2.out.keep f (fun h => h)
    have g := HG2.out.blk.keep f (fun h => h)
    exact ⟨a.cell 0 rfl, a.cell 1 rfl, a.cell 2 rfl, a.cell 3 rfl, g.cell 46 rfl, g.cell 47 rfl, g.cell 48 rfl, g.cell 49 rfl⟩)
  have f0 : Fr (fun _ => False) w2 w2.drew := (Fr.refl _ _).drew
  have d1 : decide (C < 0) = false := decide_eq_false (by omega)
  clear hc
  go_wp2_with fail
  refine wp_region_held_drew (S := fun W => W.cell? ⟨b, 0, none⟩ = some (.int .i64 kf.s) ∧ W.cell? ⟨b, 1, none⟩ = some (.int .i64 kf.r) ∧ W.cell? ⟨b, 2, none⟩ = some (.int .i64 kf.p) ∧ W.cell? ⟨b, 3, none⟩ = some (.int .i64 kf.q) ∧ W.cell? ⟨q, 46, none⟩ = some (.int .i64 la.s) ∧ W.cell? ⟨q, 47, none⟩ = some (.int .i64 la.r) ∧ W.cell? ⟨q, 48, none⟩ = some (.int .i64 la.p) ∧ W.cell? ⟨q, 49, none⟩ = some (.int .i64 la.q)) (by kernel_rfl) (PS.out _ f0) (fun hHeld => ?_)
  refine wpAnyH_take (i := 0) (v := ?_) rfl (by kernel_rfl) (by kernel_rfl) (by kernel_rfl) (fun _ _ _ h => h) (Or.inl ⟨by rfl, ?_⟩) hHeld ?_
  rotate_left 1
  · (intro w hSw; (try dsimp only at hSw); go_simp <;> with_reducible rfl)
  try simp only [Act.put, List.setIfInBounds_toArray, List.set_cons_zero, List.set_cons_succ, List.getElem_toArray, List.getElem_cons_succ, List.getElem_cons_zero]
  refine wpAnyH_take (i := 1) (v := ?_) rfl (by kernel_rfl) (by kernel_rfl) (by kernel_rfl) (fun _ _ _ h => h) (Or.inl ⟨by rfl, ?_⟩) hHeld ?_
  rotate_left 1
  · (intro w hSw; (try dsimp only at hSw); go_simp <;> with_reducible rfl)
  try simp only [Act.put, List.setIfInBounds_toArray, List.set_cons_zero, List.set_cons_succ, List.getElem_toArray, List.getElem_cons_succ, List.getElem_cons_zero]
  refine wpAnyH_take (i := 2) (v := ?_) rfl (by kernel_rfl) (by kernel_rfl) (by kernel_rfl) (fun _ _ _ h => h) (Or.inl ⟨by rfl, ?_⟩) hHeld ?_
  rotate_left 1
  · (intro w hSw; (try dsimp only at hSw); go_simp <;> with_reducible rfl)
  try simp only [Act.put, List.setIfInBounds_toArray, List.set_cons_zero, List.set_cons_succ, List.getElem_toArray, List.getElem_cons_succ, List.getElem_cons_zero]
  refine wpAnyH_take (i := 3) (v := ?_) rfl (by kernel_rfl) (by kernel_rfl) (by kernel_rfl) (fun _ _ _ h => h) (Or.inl ⟨by rfl, ?_⟩) hHeld ?_
  rotate_left 1
  · (intro w hSw; (try dsimp only at hSw); go_simp <;> with_reducible rfl)
  try simp only [Act.put, List.setIfInBounds_toArray, List.set_cons_zero, List.set_cons_succ, List.getElem_toArray, List.getElem_cons_succ, List.getElem_cons_zero]
  refine wpAnyH_take (i := 4) (v := ?_) rfl (by kernel_rfl) (by kernel_rfl) (by kernel_rfl) (fun _ _ _ h => h) (Or.inl ⟨by rfl, ?_⟩) hHeld ?_
  rotate_left 1
  · (intro w hSw; (try dsimp only at hSw); go_simp <;> with_reducible rfl)
  try simp only [Act.put, List.setIfInBounds_toArray, List.set_cons_zero, List.set_cons_succ, List.getElem_toArray, List.getElem_cons_succ, List.getElem_cons_zero]
  refine wpAnyH_take (i := 5) (v := ?_) rfl (by kernel_rfl) (by kernel_rfl) (by kernel_rfl) (fun _ _ _ h => h) (Or.inl ⟨by rfl, ?_⟩) hHeld ?_
  rotate_left 1
  · (intro w hSw; (try dsimp only at hSw); go_simp <;> with_reducible rfl)
  try simp only [Act.put, List.setIfInBounds_toArray, List.set_cons_zero, List.set_cons_succ, List.getElem_toArray, List.getElem_cons_succ, List.getElem_cons_zero]
  refine wpAnyH_take (i := 6) (v := ?_) rfl (by kernel_rfl) (by kernel_rfl) (by kernel_rfl) (fun _ _ _ h => h) (Or.inl ⟨by rfl, ?_⟩) hHeld ?_
  rotate_left 1
  · (intro w hSw; (try dsimp only at hSw); go_simp <;> with_reducible rfl)
  try simp only [Act.put, List.setIfInBounds_toArray, List.set_cons_zero, List.set_cons_succ, List.getElem_toArray, List.getElem_cons_succ, List.getElem_cons_zero]
  refine wpAnyH_take (i := 7) (v := ?_) rfl (by kernel_rfl) (by kernel_rfl) (by kernel_rfl) (fun _ _ _ h => h) (Or.inl ⟨by rfl, ?_⟩) hHeld ?_
  rotate_left 1
  · (intro w hSw; (try dsimp only at hSw); go_simp <;> with_reducible rfl)
  try simp only [Act.put, List.setIfInBounds_toArray, List.set_cons_zero, List.set_cons_succ, List.getElem_toArray, List.getElem_cons_succ, List.getElem_cons_zero]
  refine wpAnyH_ready (rs := [8]) (by kernel_rfl) (by simp) ?_
  refine AllReadyH.cons rfl (fun K hK => ?_) AllReadyH.nil
  clear hHeld
  go_simp
  go_at_call 56
  refine (HKC.out _).mono ?_
  rintro e w9 ⟨rfl, hacc⟩
  have f9 := f0.trans hacc
  clear hacc
  refine hK.out _ _ (PS.out _ f9) (fun hHeld => ?_)
  clear hK K
  try simp only [Act.put, List.setIfInBounds_toArray, List.set_cons_zero, List.set_cons_succ, List.getElem_toArray, List.getElem_cons_succ, List.getElem_cons_zero]
  refine wpAnyH_take (i := 9) (v := ?_) rfl (by kernel_rfl) (by kernel_rfl) (by kernel_rfl) (fun _ _ _ h => h) (Or.inl ⟨by rfl, ?_⟩) hHeld ?_
  rotate_left 1
  · (intro w hSw; (try dsimp only at hSw); go_simp <;> with_reducible rfl)
  try simp only [Act.put, List.setIfInBounds_toArray, List.set_cons_zero, List.set_cons_succ, List.getElem_toArray, List.getElem_cons_succ, List.getElem_cons_zero]
  refine wpAnyH_take (i := 10) (v := ?_) rfl (by kernel_rfl) (by kernel_rfl) (by kernel_rfl) (fun _ _ _ h => h) (Or.inl ⟨by rfl, ?_⟩) hHeld ?_
  rotate_left 1
  · (intro w hSw; (try dsimp only at hSw); go_simp <;> with_reducible rfl)
  try simp only [Act.put, List.setIfInBounds_toArray, List.set_cons_zero, List.set_cons_succ, List.getElem_toArray, List.getElem_cons_succ, List.getElem_cons_zero]
  refine wpAnyH_done (by kernel_rfl) ?_ _
  clear hHeld
  have HFA := hid (HF2.out.trans f9)
  have HGA := hid (HG2.out.keep0 f9)
  have HQA := hid (HQ2.out.blk.keep f9 (fun h => h))
  have HBA := hid (HB2.out.keep f9 (fun h => h))
  clear PS f0 f9 d1 HKC HG HG2 HQ2 HB2 HF2
  generalize w9 = w at *
  have HG := hid HGA.out
  clear HGA
  go_wp2_with fail
  go_loopg [10] (cntS (rS st fl L)) (fun g v wr => ∃ (i : Nat) (lv' : Nat → Value) (L' : Nat → List It) (la' : Ky) (out : List It), g = cntS (rS st fl L') ∧ out.length + g ≤ cntS (rS st fl L) ∧ itS (mayC kf) i ⟨rS st fl L, la, []⟩ = ⟨rS st fl L', la', out.map (·.x)⟩ ∧ RG wr q st fl lv' L' la' ∧ Less q lv lv' L L' ∧ Its wr v out ∧ (∀ b, b ∈ footOf v → w.heap.size ≤ b) ∧ (∀ x ∈ out, ∃ i, i < 9 ∧ x ∈ L i) ∧ Fr (· = q) w wr)
  case atStart => exact ⟨0, lv, L, la, [], rfl, by simp, rfl, HG.out, fun i hi => ⟨fun b hb => hb, fun x hx => hx⟩, Its.nil _, fun b hb => by simp [footOf, Value.ownBlock] at hb, fun x hx => by simp at hx, Fr.refl _ _⟩
  case round =>
    obtain ⟨i, lv', L', la', out, hgg, hlen, hit, hg, hcm, hits, hab, hin, hf⟩ := hrel
    have HGG := hid hgg
    have HLN := hid hlen
    have HIT := hid hit
    have HGR := hid hg
    have HCM := hid hcm
    have HIS := hid hits
    have HAB := hid hab
    have HIN := hid hin
    have HF := hid hf
    clear hgg hlen hit hg hcm hits hab hin hf
    obtain ⟨ao3, cap3, hv3⟩ := HIS.out.1.shape
    obtain ⟨nO, hnO⟩ : ∃ nO, nO = out.length := ⟨_, rfl⟩
    rw [← hnO] at hv3
    have HNO := hid hnO
    subst hv3
    clear hnO
    go_wp2_with fail
    with_reducible refine (least_any HGR.out).mono ?_
    rintro e w4 ⟨rfl, f1⟩
    have HG4 := hid (HGR.out.keep0 f1)
    have HIS4 := hid (HIS.out.keep f1 (fun _ _ h => h) (fun _ _ h => h))
    have HF4 := hid (HF.out.trans (f1.mono (fun _ _ h => h.elim)))
    have HFI := hid HGR.out.first
    have HB4 := hid (HBA.out.keep HF4.out (fun e => HBQ.out e))
    have HQ4 := hid (HQA.out.keep HF4.out (fun e => HQQ.out e))
    clear f1 HGR HIS HF
    have f0 : Fr (fun _ => False) w4 w4.drew := (Fr.refl _ _).drew
    cases hl : leastR L' 9 with
    | none =>
      have HST : Hid (nextS (mayC kf) ⟨rS st fl L', la', out.map (·.x)⟩ = none) := hid (by unfold nextS; simp only; rw [HFI.out, hl]; rfl)
      rw [show atR none = -1 from rfl]
      clear hl
      go_wp2_with fail
      refine wp_region_held_drew (S := fun _ => True) (by kernel_rfl) (trivial) (fun hHeld => ?_)
      refine wpAnyH_take (i := 0) (v := ?_) rfl (by kernel_rfl) (by kernel_rfl) (by kernel_rfl) (fun _ _ _ h => h) (Or.inl ⟨by rfl, ?_⟩) hHeld ?_
      rotate_left 1
      · (intro w hSw; (try dsimp only at hSw); go_simp <;> with_reducible rfl)
      try simp only [Act.put, List.setIfInBounds_toArray, List.set_cons_zero, List.set_cons_succ, List.getElem_toArray, List.getElem_cons_succ, List.getElem_cons_zero]
      refine wpAnyH_take (i := 1) (v := ?_) rfl (by kernel_rfl) (by kernel_rfl) (by kernel_rfl) (fun _ _ _ h => h) (Or.inl ⟨by rfl, ?_⟩) hHeld ?_
      rotate_left 1
      · (intro w hSw; (try dsimp only at hSw); go_simp <;> with_reducible rfl)
      try simp only [Act.put, List.setIfInBounds_toArray, List.set_cons_zero, List.set_cons_succ, List.getElem_toArray, List.getElem_cons_succ, List.getElem_cons_zero]
      refine wpAnyH_take (i := 2) (v := ?_) rfl (by kernel_rfl) (by kernel_rfl) (by kernel_rfl) (fun _ _ _ h => h) (Or.inl ⟨by rfl, ?_⟩) hHeld ?_
      rotate_left 1
      · (intro w hSw; (try dsimp only at hSw); go_simp <;> with_reducible rfl)
      try simp only [Act.put, List.setIfInBounds_toArray, List.set_cons_zero, List.set_cons_succ, List.getElem_toArray, List.getElem_cons_succ, List.getElem_cons_zero]
      refine wpAnyH_take (i := 3) (v := undef) rfl (by kernel_rfl) (by kernel_rfl) (by kernel_rfl) (fun _ _ _ h => h) (Or.inr ⟨by rfl, rfl⟩) hHeld ?_
      try simp only [Act.put, List.setIfInBounds_toArray, List.set_cons_zero, List.set_cons_succ, List.getElem_toArray, List.getElem_cons_succ, List.getElem_cons_zero]
      refine wpAnyH_take (i := 4) (v := undef) rfl (by kernel_rfl) (by kernel_rfl) (by kernel_rfl) (fun _ _ _ h => h) (Or.inr ⟨by rfl, rfl⟩) hHeld ?_
      try simp only [Act.put, List.setIfInBounds_toArray, List.set_cons_zero, List.set_cons_succ, List.getElem_toArray, List.getElem_cons_succ, List.getElem_cons_zero]
      refine wpAnyH_take (i := 5) (v := undef) rfl (by kernel_rfl) (by kernel_rfl) (by kernel_rfl) (fun _ _ _ h => h) (Or.inr ⟨by rfl, rfl⟩) hHeld ?_
      try simp only [Act.put, List.setIfInBounds_toArray, List.set_cons_zero, List.set_cons_succ, List.getElem_toArray, List.getElem_cons_succ, List.getElem_cons_zero]
      refine wpAnyH_take (i := 6) (v := undef) rfl (by kernel_rfl) (by kernel_rfl) (by kernel_rfl) (fun _ _ _ h => h) (Or.inr ⟨by rfl, rfl⟩) hHeld ?_
      try simp only [Act.put, List.setIfInBounds_toArray, List.set_cons_zero, List.set_cons_succ, List.getElem_toArray, List.getElem_cons_succ, List.getElem_cons_zero]
      refine wpAnyH_take (i := 7) (v := undef) rfl (by kernel_rfl) (by kernel_rfl) (by kernel_rfl) (fun _ _ _ h => h) (Or.inr ⟨by rfl, rfl⟩) hHeld ?_
      try simp only [Act.put, List.setIfInBounds_toArray, List.set_cons_zero, List.set_cons_succ, List.getElem_toArray, List.getElem_cons_succ, List.getElem_cons_zero]
      refine wpAnyH_take (i := 8) (v := undef) rfl (by kernel_rfl) (by kernel_rfl) (by kernel_rfl) (fun _ _ _ h => h) (Or.inr ⟨by rfl, rfl⟩) hHeld ?_
      try simp only [Act.put, List.setIfInBounds_toArray, List.set_cons_zero, List.set_cons_succ, List.getElem_toArray, List.getElem_cons_succ, List.getElem_cons_zero]
      refine wpAnyH_take (i := 9) (v := undef) rfl (by kernel_rfl) (by kernel_rfl) (by kernel_rfl) (fun _ _ _ h => h) (Or.inr ⟨by rfl, rfl⟩) hHeld ?_
      try simp only [Act.put, List.setIfInBounds_toArray, List.set_cons_zero, List.set_cons_succ, List.getElem_toArray, List.getElem_cons_succ, List.getElem_cons_zero]
      refine wpAnyH_take (i := 10) (v := undef) rfl (by kernel_rfl) (by kernel_rfl) (by kernel_rfl) (fun _ _ _ h => h) (Or.inr ⟨by rfl, rfl⟩) hHeld ?_
      try simp only [Act.put, List.setIfInBounds_toArray, List.set_cons_zero, List.set_cons_succ, List.getElem_toArray, List.getElem_cons_succ, List.getElem_cons_zero]
      refine wpAnyH_take (i := 11) (v := undef) rfl (by kernel_rfl) (by kernel_rfl) (by kernel_rfl) (fun _ _ _ h => h) (Or.inr ⟨by rfl, rfl⟩) hHeld ?_
      try simp only [Act.put, List.setIfInBounds_toArray, List.set_cons_zero, List.set_cons_succ, List.getElem_toArray, List.getElem_cons_succ, List.getElem_cons_zero]
      refine wpAnyH_take (i := 12) (v := undef) rfl (by kernel_rfl) (by kernel_rfl) (by kernel_rfl) (fun _ _ _ h => h) (Or.inr ⟨by rfl, rfl⟩) hHeld ?_
      try simp only [Act.put, List.setIfInBounds_toArray, List.set_cons_zero, List.set_cons_succ, List.getElem_toArray, List.getElem_cons_succ, List.getElem_cons_zero]
      refine wpAnyH_take (i := 13) (v := undef) rfl (by kernel_rfl) (by kernel_rfl) (by kernel_rfl) (fun _ _ _ h => h) (Or.inr ⟨by rfl, rfl⟩) hHeld ?_
      try simp only [Act.put, List.setIfInBounds_toArray, List.set_cons_zero, List.set_cons_succ, List.getElem_toArray, List.getElem_cons_succ, List.getElem_cons_zero]
      refine wpAnyH_take (i := 14) (v := undef) rfl (by kernel_rfl) (by kernel_rfl) (by kernel_rfl) (fun _ _ _ h => h) (Or.inr ⟨by rfl, rfl⟩) hHeld ?_
      try simp only [Act.put, List.setIfInBounds_toArray, List.set_cons_zero, List.set_cons_succ, List.getElem_toArray, List.getElem_cons_succ, List.getElem_cons_zero]
      refine wpAnyH_take (i := 15) (v := ?_) rfl (by kernel_rfl) (by kernel_rfl) (by kernel_rfl) (fun _ _ _ h => h) (Or.inl ⟨by rfl, ?_⟩) hHeld ?_
      rotate_left 1
      · (intro w hSw; (try dsimp only at hSw); go_simp <;> with_reducible rfl)
      try simp only [Act.put, List.setIfInBounds_toArray, List.set_cons_zero, List.set_cons_succ, List.getElem_toArray, List.getElem_cons_succ, List.getElem_cons_zero]
      refine wpAnyH_done (by kernel_rfl) ?_ _
      clear hHeld
      have f9 := f0
      have HGZ := hid (HG4.out.keep0 f9)
      have HISZ := hid (HIS4.out.keep f9 (fun _ _ h => h) (fun _ _ h => h))
      have HFZ := hid (HF4.out.trans (f9.mono (fun _ _ h => h.elim)))
      have HQZ := hid (HQ4.out.keep f9 (fun h => h))
      have HNQ : Hid (¬ q ∈ footOf (.slice ao3 nO cap3)) := hid (fun hb => by have h1 := HAB.out q hb; have h2 := HG.out.blk.lt; omega)
      clear f9 f0 HG4 HIS4 HF4 HQ4 HB4
      generalize w4.drew = wZ at *
      have n0 : wZ.cell? ⟨qn, 0, none⟩ = some (.int .i64 (n : Int)) := HQZ.out.cell 0 rfl
      have y0 : wZ.frozen? ⟨q, 0, none⟩ = false := HGZ.out.blk.free 0
      have m0 : wZ.cell? ⟨q, 0, none⟩ = some (.int .i64 (st : Int)) := HGZ.out.blk.cell 0 rfl
      go_upto_region 11 with (fail)
      have HBY : Hid (Blk (wZ.setCell ⟨q, 0, none⟩ (.int .i64 (n : Int))) q (refA (n : Int) fl lv' la') 92) := hid (HGZ.out.blk.set' 0 _ rfl)
      have HFY : Hid (Fr (· = q) wZ (wZ.setCell ⟨q, 0, none⟩ (.int .i64 (n : Int)))) := hid ((Fr.refl _ wZ).set1 _ _)
      have HQY := hid (HQZ.out.keep HFY.out (fun e => HQQ.out e))
      clear n0 y0 m0
      generalize wZ.setCell ⟨q, 0, none⟩ (.int .i64 (n : Int)) = wY at *
      go_wp2_with (first | (refine wpList_load_part rfl 89 _ rfl aggKeys9 qn 1 rfl HQY.out #[.int .i64 kf.s, .int .i64 kf.r, .int .i64 kf.p, .int .i64 kf.q, .int .i64 kf.s, .int .i64 kf.r, .int .i64 kf.p, .int .i64 kf.q, .int .i64 kf.s, .int .i64 kf.r, .int .i64 kf.p, .int .i64 kf.q, .int .i64 kf.s, .int .i64 kf.r, .int .i64 kf.p, .int .i64 kf.q, .int .i64 kf.s, .int .i64 kf.r, .int .i64 kf.p, .int .i64 kf.q, .int .i64 kf.s, .int .i64 kf.r, .int .i64 kf.p, .int .i64 kf.q, .int .i64 kf.s, .int .i64 kf.r, .int .i64 kf.p, .int .i64 kf.q, .int .i64 kf.s, .int .i64 kf.r, .int .i64 kf.p, .int .i64 kf.q, .int .i64 kf.s, .int .i64 kf.r, .int .i64 kf.p, .int .i64 kf.q] rfl rfl ?_) | (refine wpList_store_part rfl 89 _ _ rfl aggKeys9 q 1 rfl HBY.out _ rfl rfl (one_keys9 kf) (Nat.le_of_ble_eq_true rfl) (refA (n : Int) (fun _ => kf) lv' la') (refA_fl9 _ _ _ _ _) ?_))
      intro wX BX fX zX
      have HBX := hid BX
      have HFX := hid (HFY.out.trans fX)
      have HQX := hid (HQY.out.keep fX (fun e => HQQ.out e))
      clear BX fX zX HBY HFY HQY
      go_wp2_with (first | (refine wpList_load_part rfl 90 _ rfl aggRows9 qn 37 rfl HQX.out #[.slice none 0 0, .slice none 0 0, .slice none 0 0, .slice none 0 0, .slice none 0 0, .slice none 0 0, .slice none 0 0, .slice none 0 0, .slice none 0 0] rfl rfl ?_) | (refine wpList_store_part rfl 90 _ _ rfl aggRows9 q 37 rfl HBX.out _ rfl rfl one_rows9 (Nat.le_of_ble_eq_true rfl) (refA (n : Int) (fun _ => kf) (fun _ => .slice none 0 0) la') (refA_lv9 _ _ _ _) ?_))
      intro wV BV fV zV
      have HBV := hid BV
      have HFV := hid (HFX.out.trans fV)
      have HQV := hid (HQX.out.keep fV (fun e => HQQ.out e))
      clear BV fV zV HBX HFX HQX
      go_wp2_with (first | (refine wpList_load_part rfl 32 _ rfl aggKey qn 46 rfl HQV.out #[.int .i64 kf.s, .int .i64 kf.r, .int .i64 kf.p, .int .i64 kf.q] rfl rfl ?_) | (refine wpList_store_part rfl 32 _ _ rfl aggKey q 46 rfl HBV.out (.agg #[.int .i64 kf.s, .int .i64 kf.r, .int .i64 kf.p, .int .i64 kf.q]) rfl rfl (one_key kf) (Nat.le_of_ble_eq_true rfl) (refA (n : Int) (fun _ => kf) (fun _ => .slice none 0 0) kf) (refA_la9 _ _ _ _ _) ?_))
      intro wU BU fU zU
      have HFU := hid (HFV.out.trans fU)
      go_wp2_with fail
      go_ret2
      exact ⟨_, _, _, out, i, rfl, HIT.out, HST.out, ⟨BU, fun _ _ => Its.nil _, fun _ _ _ _ _ b hb => by simp [footOf, Value.ownBlock] at hb, HH5.out, fun _ _ _ => rfl⟩, HISZ.out.keepT HGZ.out.blk HFU.out (by decide) (by decide), fun b hb => Nat.le_trans HFA.out.size (HAB.out b hb), HIN.out, (HFA.out.mono (fun _ _ h => h.elim)).trans (HFZ.out.trans HFU.out)⟩
    | some j =>
      obtain ⟨hj, hj0, hjb⟩ := HG4.out.bit hl
      obtain ⟨x, r, hxr⟩ : ∃ x r, L' j = x :: r := by
        cases h : L' j with
        | nil => exact absurd h hj0
        | cons x r => exact ⟨x, r, rfl⟩
      have HXR := hid hxr
      have HJ := hid hj
      have HJB := hid hjb
      have HAJ : Hid (rS st fl L' (j : Int) = some (fl j, x.x :: r.map (·.x))) := hid (by rw [rS_at hj hjb, hxr]; rfl)
      have HFJ : Hid (firstA (rS st fl L') 9 = some (j : Int)) := hid (by rw [HFI.out, hl]; rfl)
      rw [show atR (some j) = (j : Int) from rfl]
      have hjd : decide ((j : Int) < 0) = false := decide_eq_false (by omega)
      have hji : (j : Int) < 9 := by omega
      clear hl hj hj0 hjb hxr
      obtain ⟨g, o, cap, N, hv, hN, hN0, hNc, hcap, r0, r1, r2, r3⟩ := (HG4.out.row j HJ.out).head (by rw [HXR.out]; simp)
      rw [HXR.out] at r0 r1 r2 r3
      simp only [hdL] at r0 r1 r2 r3
      have cj : w4.cell? ⟨q, 37 + j, none⟩ = some (.slice (some ⟨g, o, none⟩) N cap) := hv ▸ HG4.out.blk.cell (37 + j) (refA_lv (st : Int) fl lv' la' HJ.out)
      have PS : Hid (∀ W, Fr (fun _ => False) w4 W → W.cell? ⟨q, 37 + j, none⟩ = some (.slice (some ⟨g, o, none⟩) N cap) ∧ (W.cell? ⟨g, o, none⟩ = some (.int .i64 x.x.k.s) ∧ W.cell? ⟨g, o + 1, none⟩ = some (.int .i64 x.x.k.r) ∧ W.cell? ⟨g, o + 2, none⟩ = some (.int .i64 x.x.k.p) ∧ W.cell? ⟨g, o + 3, none⟩ = some (.int .i64 x.x.k.q)) ∧ W.cell? ⟨b, 0, none⟩ = some (.int .i64 kf.s) ∧ W.cell? ⟨b, 1, none⟩ = some (.int .i64 kf.r) ∧ W.cell? ⟨b, 2, none⟩ = some (.int .i64 kf.p) ∧ W.cell? ⟨b, 3, none⟩ = some (.int .i64 kf.q)) := hid (fun W f => by
        have a := HB4.out.keep f (fun h => h)
        exact ⟨cell_fr f cj, ⟨cell_fr f r0, cell_fr f r1, cell_fr f r2, cell_fr f r3⟩, a.cell 0 rfl, a.cell 1 rfl, a.cell 2 rfl, a.cell 3 rfl⟩)
      clear hv hN cj r0 r1 r2 r3
      have HKC := hid (fun W => rkeys_any x.x.k.s x.x.k.r x.x.k.p x.x.k.q kf.s kf.r kf.p kf.q W)
      rw [show kcmp x.x.k.s x.x.k.r x.x.k.p x.x.k.q kf.s kf.r kf.p kf.q = kc x.x.k kf from rfl] at HKC
      have HMY0 : Hid (mayC kf (rS st fl L') x.x.k = decide (kc x.x.k kf < 0)) := hid rfl
      obtain ⟨C, hC⟩ : ∃ C, kc x.x.k kf = C := ⟨_, rfl⟩
      rw [hC] at HKC HMY0
      clear hC
      by_cases hc : C < 0
      · have d1 : decide (0 ≤ C) = false := decide_eq_false (by omega)
        have HMY : Hid (mayC kf (rS st fl L') x.x.k = true) := hid (by rw [HMY0.out, decide_eq_true hc])
        clear hc
        go_wp2_with fail
        refine wp_region_held_drew (S := fun W => W.cell? ⟨q, 37 + j, none⟩ = some (.slice (some ⟨g, o, none⟩) N cap) ∧ (W.cell? ⟨g, o, none⟩ = some (.int .i64 x.x.k.s) ∧ W.cell? ⟨g, o + 1, none⟩ = some (.int .i64 x.x.k.r) ∧ W.cell? ⟨g, o + 2, none⟩ = some (.int .i64 x.x.k.p) ∧ W.cell? ⟨g, o + 3, none⟩ = some (.int .i64 x.x.k.q)) ∧ W.cell? ⟨b, 0, none⟩ = some (.int .i64 kf.s) ∧ W.cell? ⟨b, 1, none⟩ = some (.int .i64 kf.r) ∧ W.cell? ⟨b, 2, none⟩ = some (.int .i64 kf.p) ∧ W.cell? ⟨b, 3, none⟩ = some (.int .i64 kf.q)) (by kernel_rfl) (PS.out _ f0) (fun hHeld => ?_)
        refine wpAnyH_take (i := 0) (v := ?_) rfl (by kernel_rfl) (by kernel_rfl) (by kernel_rfl) (fun _ _ _ h => h) (Or.inl ⟨by rfl, ?_⟩) hHeld ?_
        rotate_left 1
        · (intro w hSw; (try dsimp only at hSw); go_simp <;> with_reducible rfl)
        try simp only [Act.put, List.setIfInBounds_toArray, List.set_cons_zero, List.set_cons_succ, List.getElem_toArray, List.getElem_cons_succ, List.getElem_cons_zero]
        refine wpAnyH_take (i := 1) (v := ?_) rfl (by kernel_rfl) (by kernel_rfl) (by kernel_rfl) (fun _ _ _ h => h) (Or.inl ⟨by rfl, ?_⟩) hHeld ?_
        rotate_left 1
        · (intro w hSw; (try dsimp only at hSw); go_simp <;> with_reducible rfl)
        try simp only [Act.put, List.setIfInBounds_toArray, List.set_cons_zero, List.set_cons_succ, List.getElem_toArray, List.getElem_cons_succ, List.getElem_cons_zero]
        refine wpAnyH_take (i := 2) (v := ?_) rfl (by kernel_rfl) (by kernel_rfl) (by kernel_rfl) (fun _ _ _ h => h) (Or.inl ⟨by rfl, ?_⟩) hHeld ?_
        rotate_left 1
        · (intro w hSw; (try dsimp only at hSw); go_simp <;> with_reducible rfl)
        try simp only [Act.put, List.setIfInBounds_toArray, List.set_cons_zero, List.set_cons_succ, List.getElem_toArray, List.getElem_cons_succ, List.getElem_cons_zero]
        refine wpAnyH_take (i := 3) (v := ?_) rfl (by kernel_rfl) (by kernel_rfl) (by kernel_rfl) (fun _ _ _ h => h) (Or.inl ⟨by rfl, ?_⟩) hHeld ?_
        rotate_left 1
        · (intro w hSw; (try dsimp only at hSw); go_simp <;> with_reducible rfl)
        try simp only [Act.put, List.setIfInBounds_toArray, List.set_cons_zero, List.set_cons_succ, List.getElem_toArray, List.getElem_cons_succ, List.getElem_cons_zero]
        refine wpAnyH_take (i := 4) (v := ?_) rfl (by kernel_rfl) (by kernel_rfl) (by kernel_rfl) (fun _ _ _ h => h) (Or.inl ⟨by rfl, ?_⟩) hHeld ?_
        rotate_left 1
        · (intro w hSw; (try dsimp only at hSw); go_simp <;> with_reducible rfl)
        try simp only [Act.put, List.setIfInBounds_toArray, List.set_cons_zero, List.set_cons_succ, List.getElem_toArray, List.getElem_cons_succ, List.getElem_cons_zero]
        refine wpAnyH_take (i := 5) (v := ?_) rfl (by kernel_rfl) (by kernel_rfl) (by kernel_rfl) (fun _ _ _ h => h) (Or.inl ⟨by rfl, ?_⟩) hHeld ?_
        rotate_left 1
        · (intro w hSw; (try dsimp only at hSw); go_simp <;> with_reducible rfl)
        try simp only [Act.put, List.setIfInBounds_toArray, List.set_cons_zero, List.set_cons_succ, List.getElem_toArray, List.getElem_cons_succ, List.getElem_cons_zero]
        refine wpAnyH_take (i := 6) (v := ?_) rfl (by kernel_rfl) (by kernel_rfl) (by kernel_rfl) (fun _ _ _ h => h) (Or.inl ⟨by rfl, ?_⟩) hHeld ?_
        rotate_left 1
        · (intro w hSw; (try dsimp only at hSw); go_simp <;> with_reducible rfl)
        try simp only [Act.put, List.setIfInBounds_toArray, List.set_cons_zero, List.set_cons_succ, List.getElem_toArray, List.getElem_cons_succ, List.getElem_cons_zero]
        refine wpAnyH_take (i := 7) (v := ?_) rfl (by kernel_rfl) (by kernel_rfl) (by kernel_rfl) (fun _ _ _ h => h) (Or.inl ⟨by rfl, ?_⟩) hHeld ?_
        rotate_left 1
        · (intro w hSw; (try dsimp only at hSw); go_simp <;> with_reducible rfl)
        try simp only [Act.put, List.setIfInBounds_toArray, List.set_cons_zero, List.set_cons_succ, List.getElem_toArray, List.getElem_cons_succ, List.getElem_cons_zero]
        refine wpAnyH_take (i := 8) (v := ?_) rfl (by kernel_rfl) (by kernel_rfl) (by kernel_rfl) (fun _ _ _ h => h) (Or.inl ⟨by rfl, ?_⟩) hHeld ?_
        rotate_left 1
        · (intro w hSw; (try dsimp only at hSw); go_simp <;> with_reducible rfl)
        try simp only [Act.put, List.setIfInBounds_toArray, List.set_cons_zero, List.set_cons_succ, List.getElem_toArray, List.getElem_cons_succ, List.getElem_cons_zero]
        refine wpAnyH_take (i := 9) (v := ?_) rfl (by kernel_rfl) (by kernel_rfl) (by kernel_rfl) (fun _ _ _ h => h) (Or.inl ⟨by rfl, ?_⟩) hHeld ?_
        rotate_left 1
        · (intro w hSw; (try dsimp only at hSw); go_simp <;> with_reducible rfl)
        try simp only [Act.put, List.setIfInBounds_toArray, List.set_cons_zero, List.set_cons_succ, List.getElem_toArray, List.getElem_cons_succ, List.getElem_cons_zero]
        refine wpAnyH_take (i := 10) (v := ?_) rfl (by kernel_rfl) (by kernel_rfl) (by kernel_rfl) (fun _ _ _ h => h) (Or.inl ⟨by rfl, ?_⟩) hHeld ?_
        rotate_left 1
        · (intro w hSw; (try dsimp only at hSw); go_simp <;> with_reducible rfl)
        try simp only [Act.put, List.setIfInBounds_toArray, List.set_cons_zero, List.set_cons_succ, List.getElem_toArray, List.getElem_cons_succ, List.getElem_cons_zero]
        refine wpAnyH_take (i := 11) (v := ?_) rfl (by kernel_rfl) (by kernel_rfl) (by kernel_rfl) (fun _ _ _ h => h) (Or.inl ⟨by rfl, ?_⟩) hHeld ?_
        rotate_left 1
        · (intro w hSw; (try dsimp only at hSw); go_simp <;> with_reducible rfl)
        try simp only [Act.put, List.setIfInBounds_toArray, List.set_cons_zero, List.set_cons_succ, List.getElem_toArray, List.getElem_cons_succ, List.getElem_cons_zero]
        refine wpAnyH_take (i := 12) (v := ?_) rfl (by kernel_rfl) (by kernel_rfl) (by kernel_rfl) (fun _ _ _ h => h) (Or.inl ⟨by rfl, ?_⟩) hHeld ?_
        rotate_left 1
        · (intro w hSw; (try dsimp only at hSw); go_simp <;> with_reducible rfl)
        try simp only [Act.put, List.setIfInBounds_toArray, List.set_cons_zero, List.set_cons_succ, List.getElem_toArray, List.getElem_cons_succ, List.getElem_cons_zero]
        refine wpAnyH_ready (rs := [13]) (by kernel_rfl) (by simp) ?_
        refine AllReadyH.cons rfl (fun K hK => ?_) AllReadyH.nil
        clear hHeld
        go_simp
        go_at_call 56
        refine (HKC.out _).mono ?_
        rintro e w9 ⟨rfl, hacc⟩
        have f9 := f0.trans hacc
        clear hacc
        refine hK.out _ _ (PS.out _ f9) (fun hHeld => ?_)
        clear hK K
        try simp only [Act.put, List.setIfInBounds_toArray, List.set_cons_zero, List.set_cons_succ, List.getElem_toArray, List.getElem_cons_succ, List.getElem_cons_zero]
        refine wpAnyH_take (i := 14) (v := ?_) rfl (by kernel_rfl) (by kernel_rfl) (by kernel_rfl) (fun _ _ _ h => h) (Or.inl ⟨by rfl, ?_⟩) hHeld ?_
        rotate_left 1
        · (intro w hSw; (try dsimp only at hSw); go_simp <;> with_reducible rfl)
        try simp only [Act.put, List.setIfInBounds_toArray, List.set_cons_zero, List.set_cons_succ, List.getElem_toArray, List.getElem_cons_succ, List.getElem_cons_zero]
        refine wpAnyH_take (i := 15) (v := ?_) rfl (by kernel_rfl) (by kernel_rfl) (by kernel_rfl) (fun _ _ _ h => h) (Or.inl ⟨by rfl, ?_⟩) hHeld ?_
        rotate_left 1
        · (intro w hSw; (try dsimp only at hSw); go_simp <;> with_reducible rfl)
        try simp only [Act.put, List.setIfInBounds_toArray, List.set_cons_zero, List.set_cons_succ, List.getElem_toArray, List.getElem_cons_succ, List.getElem_cons_zero]
        refine wpAnyH_done (by kernel_rfl) ?_ _
        clear hHeld
        have HNX : Hid (nextS (mayC kf) ⟨rS st fl L', la', out.map (·.x)⟩ = some (takeS ⟨rS st fl L', la', out.map (·.x)⟩ j (fl j) x.x (r.map (·.x)))) := hid (by
          unfold nextS; simp only; rw [HFJ.out]; simp only; rw [HAJ.out]; simp only
          rw [HMY.out]; rfl)
        have HG9 := hid (HG4.out.keep0 f9)
        have HIS9 := hid (HIS4.out.keep f9 (fun _ _ h => h) (fun _ _ h => h))
        have HF9 := hid (HF4.out.trans (f9.mono (fun _ _ h => h.elim)))
        have HX9 := hid ((HG9.out.row j HJ.out).2 x (by rw [HXR.out]; exact List.mem_cons_self))
        have HNXT := hid (next_any j x r HG9.out HJ.out HJB.out HXR.out)
        clear f9 f0 PS HG4 HIS4 HF4
        go_wp2_with fail
        with_reducible refine HNXT.out.mono ?_
        rintro e wA ⟨u, hcase, huv, fA⟩
        have HUV := hid huv
        have HFA := hid fA
        have HISA := hid (HIS9.out.keepT HG9.out.blk fA (by decide) (by decide))
        have HWF := hid (HF9.out.trans fA)
        have HXA := hid (HX9.out.keep fA (fun b h0 hb e => by obtain ⟨cs, k⟩ := HX9.out.2 h0 b hb; exact absurd ((e ▸ k : Blk _ q cs 5).type HG9.out.blk) (by decide)))
        have HCT : Hid (cntS (rS st fl L') = cntS (rS st fl (set1 L' j r)) + 1) := hid (by rw [rS_up _ _ _ HJ.out HJB.out]; exact cntS_up HAJ.out (by omega) (by have := HJ.out; omega))
        have HCM2 := hid (HCM.out.step HJ.out HXR.out HUV.out)
        have HXL : Hid (∃ i, i < 9 ∧ x ∈ L i) := hid ⟨j, HJ.out, (HCM.out j HJ.out).2 x (by rw [HXR.out]; exact List.mem_cons_self)⟩
        have HOL : Hid (nO < 100000) := hid (by have h1 := HLN.out; have h2 := HCN.out; have h3 := HNO.out; have h4 := HGG.out; have h5 := HCT.out; omega)
        by_cases hpc : 0 < kc x.x.k la'
        · rw [if_pos hpc] at hcase
          obtain ⟨rfl, hrg⟩ := hcase
          have HRG := hid hrg
          have HPC := hid hpc
          clear hrg huv fA HNXT hpc
          go_wp2_with (refine wpList_new rfl 46 rfl #[.int .i64 0, .int .i64 0, .int .i64 0, .int .i64 0, .int .i64 0, .int .i64 0, .int .i64 0, .int .i64 0, .int .i64 0, .int .i64 0, .int .i64 0, .bool false, .int .i64 0, .int .i64 0, .int .i64 0, .int .i64 0, .slice none 0 0, .int .i64 0, .int .i64 0, .int .i64 0, .int .i64 0] zeroItem ?_)
          intro t wB ht BB fB zB
          have HBB := hid BB
          have HTW : Hid (wA.heap.size = t) := hid (by omega)
          have HRGB := hid (HRG.out.keep0 fB)
          have HISB := hid (HISA.out.keep fB (fun _ _ h => h) (fun _ _ h => h))
          have HXB := hid (HXA.out.keep fB (fun _ _ _ h => h))
          have HWB := hid (HWF.out.trans (fB.mono (fun _ _ h => h.elim)))
          clear ht BB fB zB
          go_wp2_with (refine wpList_store_part rfl 46 _ _ rfl aggItem t 0 rfl HBB.out (.agg (x.x.a x.v)) rfl rfl (x.x.one (slice_one wB HXB.out.1.1)) (by decide) (x.x.a x.v) rfl ?_)
          intro wC BC fC zC
          have HBC := hid BC
          have hTw : ∀ {b : Nat} {cs : Array Value}, Blk wB b cs 5 → ¬ b = t := fun k e => absurd ((e ▸ k).type HBB.out) (by decide)
          have HRGC := hid (HRGB.out.keep fC (fun b hb e => by have h1 := HRG.out.live b hb; have h2 := HTW.out; omega))
          have HISC := hid (HISB.out.keep fC (fun b hb e => by
            have h1 := HISA.out.1.live b hb
            have h2 := HTW.out
            omega) (fun b hb => by obtain ⟨cs, k⟩ := HISB.out.body hb; exact hTw k))
          have HXC := hid (HXB.out.keep fC (fun b h0 hb => by obtain ⟨cs, k⟩ := HXB.out.2 h0 b hb; exact hTw k))
          have HWC : Hid (Fr (· = q) w wC) := hid (HWB.out.step fC (fun b hb e => by have h1 := HTW.out; have h2 := HWF.out.size; omega))
          clear BC fC zC hTw HBB HRGB HISB HXB HWB HRG HISA HXA HWF
          obtain ⟨i0, hi0, i1, i2, i3⟩ := itemI
          go_wp2_with (first | (refine wpList_load_part rfl 46 _ rfl aggItem t 0 rfl HBC.out (x.x.a x.v) rfl rfl ?_) | (refine wpList_build_one rfl 39 _ rfl Try.underlying39 aggItem (by decide) (by decide) zeroItem (x.x.a x.v) rfl rfl ?_))
          intro z9 wD hz9 BD fD _
          have HBD := hid BD
          have HRGD := hid (HRGC.out.keep0 fD)
          have HISD := hid (HISC.out.keep fD (fun _ _ h => h) (fun _ _ h => h))
          have HXD := hid (HXC.out.keep fD (fun _ _ _ h => h))
          have HWD := hid (HWC.out.trans (fD.mono (fun _ _ h => h.elim)))
          have HORD : Hid (ORow wD 46 21 (.slice ao3 nO cap3) nO (out.flatMap It.l)) := hid (by have h := HISD.out.1; rw [← HNO.out] at h; exact h)
          clear BD fD hz9 HRGC HISC HXC HWC HBC
          go_wp2_with (at_builtin; refine wpList_append_orow rfl (.tmp 56) (.tmp 58) 39 rfl 46 i0 _ 21 184 Try.underlying39 hi0 i1 i2 i3 rfl (by decide) (.slice ao3 nO cap3) nO (out.flatMap It.l) rfl HORD.out ⟨z9, 0, none⟩ 1 1 (x.x.l x.v) rfl rfl (blk_src HBD.out _ rfl) (x.x.one (slice_one wD HXD.out.1.1)) (by decide) (by have := HOL.out; unfold maxLen; omega) (by have := HOL.out; omega) ?_)
          intro u9 wE rE fE gE
          have hfpw : ∀ b, rfp q (set1 lv' j u) (set1 L' j r) b → b < w.heap.size := fun b hb => HG.out.live b (HCM2.out.fp b hb)
          have HRGE := hid (HRGD.out.keep fE (fun b hb e => by have h1 := hfpw b hb; have h2 := HAB.out b e; omega))
          have HISE : Hid (Its wE u9 (out ++ [x])) := hid (by
            refine ⟨by rw [List.flatMap_append, List.length_append, ← HNO.out]; simpa [It.l] using rE, fun y hy => ?_⟩
            have hT : ∀ b, (∃ cs, Blk wD b cs 5) → ¬ b ∈ footOf (.slice ao3 nO cap3) := fun b ⟨cs, k⟩ hb => by
              obtain ⟨ds, k'⟩ := HISD.out.1.type hb
              exact absurd (k.type k') (by decide)
            rcases List.mem_append.1 hy with hy | hy
            · exact (HISD.out.2 y hy).keep fE (fun b h0 hb => hT b ((HISD.out.2 y hy).2 h0 b hb))
            · simp only [List.mem_singleton] at hy
              subst hy
              exact HXD.out.keep fE (fun b h0 hb => hT b (HXD.out.2 h0 b hb)))
          have HABE : Hid (∀ b, b ∈ footOf u9 → w.heap.size ≤ b) := hid (fun b hb => by
            rcases gE b hb with h | h
            · exact HAB.out b h
            · have := HWD.out.size; omega)
          have HINE : Hid (∀ y ∈ out ++ [x], ∃ i, i < 9 ∧ y ∈ L i) := hid (fun y hy => by
            rcases List.mem_append.1 hy with hy | hy
            · exact HIN.out y hy
            · simp only [List.mem_singleton] at hy
              subst hy
              exact HXL.out)
          have HWE : Hid (Fr (· = q) w wE) := hid (HWD.out.step fE (fun b hb e => by have h2 := HAB.out b e; omega))
          clear rE fE gE hfpw
          go_wp2_with fail
          go_roundg (cntS (rS st fl (set1 L' j r)))
          case rel => exact ⟨i + 1, set1 lv' j u, set1 L' j r, x.x.k, out ++ [x], rfl, by have := HLN.out; have := HCT.out; have := HGG.out; rw [List.length_append, List.length_singleton]; omega, by
            show (match nextS (mayC kf) (itS (mayC kf) i ⟨rS st fl L, la, []⟩) with | none => itS (mayC kf) i ⟨rS st fl L, la, []⟩ | some s => s) = _
            rw [HIT.out, HNX.out, rS_up _ _ _ HJ.out HJB.out]
            show takeS _ j (fl j) x.x (r.map (·.x)) = _
            unfold takeS
            rw [if_pos HPC.out, if_pos HPC.out, List.map_append]; rfl, HRGE.out, HCM2.out, HISE.out, HABE.out, HINE.out, HWE.out⟩
          case measure => have := HCT.out; have := HGG.out; omega
        · rw [if_neg hpc] at hcase
          obtain ⟨rfl, hrg⟩ := hcase
          have HRG := hid hrg
          have HPC := hid hpc
          clear hrg huv fA HNXT hpc
          go_wp2_with (refine wpList_new rfl 46 rfl #[.int .i64 0, .int .i64 0, .int .i64 0, .int .i64 0, .int .i64 0, .int .i64 0, .int .i64 0, .int .i64 0, .int .i64 0, .int .i64 0, .int .i64 0, .bool false, .int .i64 0, .int .i64 0, .int .i64 0, .int .i64 0, .slice none 0 0, .int .i64 0, .int .i64 0, .int .i64 0, .int .i64 0] zeroItem ?_)
          intro t wB ht BB fB zB
          have HBB := hid BB
          have HTW : Hid (wA.heap.size = t) := hid (by omega)
          have HRGB := hid (HRG.out.keep0 fB)
          have HISB := hid (HISA.out.keep fB (fun _ _ h => h) (fun _ _ h => h))
          have HWB := hid (HWF.out.trans (fB.mono (fun _ _ h => h.elim)))
          clear ht BB fB zB
          go_wp2_with (refine wpList_store_part rfl 46 _ _ rfl aggItem t 0 rfl HBB.out (.agg #[.int .i64 0, .int .i64 0, .int .i64 0, .int .i64 0, .int .i64 0, .int .i64 0, .int .i64 0, .int .i64 0, .int .i64 0, .int .i64 0, .int .i64 0, .bool false, .int .i64 0, .int .i64 0, .int .i64 0, .int .i64 0, .slice none 0 0, .int .i64 0, .int .i64 0, .int .i64 0, .int .i64 0]) rfl rfl one_lit0 (by decide) #[.int .i64 0, .int .i64 0, .int .i64 0, .int .i64 0, .int .i64 0, .int .i64 0, .int .i64 0, .int .i64 0, .int .i64 0, .int .i64 0, .int .i64 0, .bool false, .int .i64 0, .int .i64 0, .int .i64 0, .int .i64 0, .slice none 0 0, .int .i64 0, .int .i64 0, .int .i64 0, .int .i64 0] rfl ?_)
          intro wC BC fC zC
          have hTw : ∀ {b : Nat} {cs : Array Value}, Blk wB b cs 5 → ¬ b = t := fun k e => absurd ((e ▸ k).type HBB.out) (by decide)
          have HRGC := hid (HRGB.out.keep fC (fun b hb e => by have h1 := HRG.out.live b hb; have h2 := HTW.out; omega))
          have HISC := hid (HISB.out.keep fC (fun b hb e => by
            have h1 := HISA.out.1.live b hb
            have h2 := HTW.out
            omega) (fun b hb => by obtain ⟨cs, k⟩ := HISB.out.body hb; exact hTw k))
          have HWC : Hid (Fr (· = q) w wC) := hid (HWB.out.step fC (fun b hb e => by have h1 := HTW.out; have h2 := HWF.out.size; omega))
          clear BC fC zC hTw
          go_wp2_with fail
          go_roundg (cntS (rS st fl (set1 L' j r)))
          case rel => exact ⟨i + 1, set1 lv' j u, set1 L' j r, la', out, rfl, by have := HLN.out; have := HCT.out; have := HGG.out; omega, by
            show (match nextS (mayC kf) (itS (mayC kf) i ⟨rS st fl L, la, []⟩) with | none => itS (mayC kf) i ⟨rS st fl L, la, []⟩ | some s => s) = _
            rw [HIT.out, HNX.out, rS_up _ _ _ HJ.out HJB.out]
            show takeS _ j (fl j) x.x (r.map (·.x)) = _
            unfold takeS
            have hq : ¬ 0 < kc x.x.k la' := by have := HPC.out; omega
            rw [if_neg hq, if_neg hq], HRGC.out, HCM2.out, HISC.out, HAB.out, HIN.out, HWC.out⟩
          case measure => have := HCT.out; have := HGG.out; omega
      · have d1 : decide (0 ≤ C) = true := decide_eq_true (by omega)
        have HST : Hid (nextS (mayC kf) ⟨rS st fl L', la', out.map (·.x)⟩ = none) := hid (by
          unfold nextS; simp only; rw [HFJ.out]; simp only; rw [HAJ.out]; simp only
          rw [HMY0.out, decide_eq_false (by omega)]; rfl)
        clear hc
        go_wp2_with fail
        refine wp_region_held_drew (S := fun W => W.cell? ⟨q, 37 + j, none⟩ = some (.slice (some ⟨g, o, none⟩) N cap) ∧ (W.cell? ⟨g, o, none⟩ = some (.int .i64 x.x.k.s) ∧ W.cell? ⟨g, o + 1, none⟩ = some (.int .i64 x.x.k.r) ∧ W.cell? ⟨g, o + 2, none⟩ = some (.int .i64 x.x.k.p) ∧ W.cell? ⟨g, o + 3, none⟩ = some (.int .i64 x.x.k.q)) ∧ W.cell? ⟨b, 0, none⟩ = some (.int .i64 kf.s) ∧ W.cell? ⟨b, 1, none⟩ = some (.int .i64 kf.r) ∧ W.cell? ⟨b, 2, none⟩ = some (.int .i64 kf.p) ∧ W.cell? ⟨b, 3, none⟩ = some (.int .i64 kf.q)) (by kernel_rfl) (PS.out _ f0) (fun hHeld => ?_)
        refine wpAnyH_take (i := 0) (v := ?_) rfl (by kernel_rfl) (by kernel_rfl) (by kernel_rfl) (fun _ _ _ h => h) (Or.inl ⟨by rfl, ?_⟩) hHeld ?_
        rotate_left 1
        · (intro w hSw; (try dsimp only at hSw); go_simp <;> with_reducible rfl)
        try simp only [Act.put, List.setIfInBounds_toArray, List.set_cons_zero, List.set_cons_succ, List.getElem_toArray, List.getElem_cons_succ, List.getElem_cons_zero]
        refine wpAnyH_take (i := 1) (v := ?_) rfl (by kernel_rfl) (by kernel_rfl) (by kernel_rfl) (fun _ _ _ h => h) (Or.inl ⟨by rfl, ?_⟩) hHeld ?_
        rotate_left 1
        · (intro w hSw; (try dsimp only at hSw); go_simp <;> with_reducible rfl)
        try simp only [Act.put, List.setIfInBounds_toArray, List.set_cons_zero, List.set_cons_succ, List.getElem_toArray, List.getElem_cons_succ, List.getElem_cons_zero]
        refine wpAnyH_take (i := 2) (v := ?_) rfl (by kernel_rfl) (by kernel_rfl) (by kernel_rfl) (fun _ _ _ h => h) (Or.inl ⟨by rfl, ?_⟩) hHeld ?_
        rotate_left 1
        · (intro w hSw; (try dsimp only at hSw); go_simp <;> with_reducible rfl)
        try simp only [Act.put, List.setIfInBounds_toArray, List.set_cons_zero, List.set_cons_succ, List.getElem_toArray, List.getElem_cons_succ, List.getElem_cons_zero]
        refine wpAnyH_take (i := 3) (v := ?_) rfl (by kernel_rfl) (by kernel_rfl) (by kernel_rfl) (fun _ _ _ h => h) (Or.inl ⟨by rfl, ?_⟩) hHeld ?_
        rotate_left 1
        · (intro w hSw; (try dsimp only at hSw); go_simp <;> with_reducible rfl)
        try simp only [Act.put, List.setIfInBounds_toArray, List.set_cons_zero, List.set_cons_succ, List.getElem_toArray, List.getElem_cons_succ, List.getElem_cons_zero]
        refine wpAnyH_take (i := 4) (v := ?_) rfl (by kernel_rfl) (by kernel_rfl) (by kernel_rfl) (fun _ _ _ h => h) (Or.inl ⟨by rfl, ?_⟩) hHeld ?_
        rotate_left 1
        · (intro w hSw; (try dsimp only at hSw); go_simp <;> with_reducible rfl)
        try simp only [Act.put, List.setIfInBounds_toArray, List.set_cons_zero, List.set_cons_succ, List.getElem_toArray, List.getElem_cons_succ, List.getElem_cons_zero]
        refine wpAnyH_take (i := 5) (v := ?_) rfl (by kernel_rfl) (by kernel_rfl) (by kernel_rfl) (fun _ _ _ h => h) (Or.inl ⟨by rfl, ?_⟩) hHeld ?_
        rotate_left 1
        · (intro w hSw; (try dsimp only at hSw); go_simp <;> with_reducible rfl)
        try simp only [Act.put, List.setIfInBounds_toArray, List.set_cons_zero, List.set_cons_succ, List.getElem_toArray, List.getElem_cons_succ, List.getElem_cons_zero]
        refine wpAnyH_take (i := 6) (v := ?_) rfl (by kernel_rfl) (by kernel_rfl) (by kernel_rfl) (fun _ _ _ h => h) (Or.inl ⟨by rfl, ?_⟩) hHeld ?_
        rotate_left 1
        · (intro w hSw; (try dsimp only at hSw); go_simp <;> with_reducible rfl)
        try simp only [Act.put, List.setIfInBounds_toArray, List.set_cons_zero, List.set_cons_succ, List.getElem_toArray, List.getElem_cons_succ, List.getElem_cons_zero]
        refine wpAnyH_take (i := 7) (v := ?_) rfl (by kernel_rfl) (by kernel_rfl) (by kernel_rfl) (fun _ _ _ h => h) (Or.inl ⟨by rfl, ?_⟩) hHeld ?_
        rotate_left 1
        · (intro w hSw; (try dsimp only at hSw); go_simp <;> with_reducible rfl)
        try simp only [Act.put, List.setIfInBounds_toArray, List.set_cons_zero, List.set_cons_succ, List.getElem_toArray, List.getElem_cons_succ, List.getElem_cons_zero]
        refine wpAnyH_take (i := 8) (v := ?_) rfl (by kernel_rfl) (by kernel_rfl) (by kernel_rfl) (fun _ _ _ h => h) (Or.inl ⟨by rfl, ?_⟩) hHeld ?_
        rotate_left 1
        · (intro w hSw; (try dsimp only at hSw); go_simp <;> with_reducible rfl)
        try simp only [Act.put, List.setIfInBounds_toArray, List.set_cons_zero, List.set_cons_succ, List.getElem_toArray, List.getElem_cons_succ, List.getElem_cons_zero]
        refine wpAnyH_take (i := 9) (v := ?_) rfl (by kernel_rfl) (by kernel_rfl) (by kernel_rfl) (fun _ _ _ h => h) (Or.inl ⟨by rfl, ?_⟩) hHeld ?_
        rotate_left 1
        · (intro w hSw; (try dsimp only at hSw); go_simp <;> with_reducible rfl)
        try simp only [Act.put, List.setIfInBounds_toArray, List.set_cons_zero, List.set_cons_succ, List.getElem_toArray, List.getElem_cons_succ, List.getElem_cons_zero]
        refine wpAnyH_take (i := 10) (v := ?_) rfl (by kernel_rfl) (by kernel_rfl) (by kernel_rfl) (fun _ _ _ h => h) (Or.inl ⟨by rfl, ?_⟩) hHeld ?_
        rotate_left 1
        · (intro w hSw; (try dsimp only at hSw); go_simp <;> with_reducible rfl)
        try simp only [Act.put, List.setIfInBounds_toArray, List.set_cons_zero, List.set_cons_succ, List.getElem_toArray, List.getElem_cons_succ, List.getElem_cons_zero]
        refine wpAnyH_take (i := 11) (v := ?_) rfl (by kernel_rfl) (by kernel_rfl) (by kernel_rfl) (fun _ _ _ h => h) (Or.inl ⟨by rfl, ?_⟩) hHeld ?_
        rotate_left 1
        · (intro w hSw; (try dsimp only at hSw); go_simp <;> with_reducible rfl)
        try simp only [Act.put, List.setIfInBounds_toArray, List.set_cons_zero, List.set_cons_succ, List.getElem_toArray, List.getElem_cons_succ, List.getElem_cons_zero]
        refine wpAnyH_take (i := 12) (v := ?_) rfl (by kernel_rfl) (by kernel_rfl) (by kernel_rfl) (fun _ _ _ h => h) (Or.inl ⟨by rfl, ?_⟩) hHeld ?_
        rotate_left 1
        · (intro w hSw; (try dsimp only at hSw); go_simp <;> with_reducible rfl)
        try simp only [Act.put, List.setIfInBounds_toArray, List.set_cons_zero, List.set_cons_succ, List.getElem_toArray, List.getElem_cons_succ, List.getElem_cons_zero]
        refine wpAnyH_ready (rs := [13]) (by kernel_rfl) (by simp) ?_
        refine AllReadyH.cons rfl (fun K hK => ?_) AllReadyH.nil
        clear hHeld
        go_simp
        go_at_call 56
        refine (HKC.out _).mono ?_
        rintro e w9 ⟨rfl, hacc⟩
        have f9 := f0.trans hacc
        clear hacc
        refine hK.out _ _ (PS.out _ f9) (fun hHeld => ?_)
        clear hK K
        try simp only [Act.put, List.setIfInBounds_toArray, List.set_cons_zero, List.set_cons_succ, List.getElem_toArray, List.getElem_cons_succ, List.getElem_cons_zero]
        refine wpAnyH_take (i := 14) (v := ?_) rfl (by kernel_rfl) (by kernel_rfl) (by kernel_rfl) (fun _ _ _ h => h) (Or.inl ⟨by rfl, ?_⟩) hHeld ?_
        rotate_left 1
        · (intro w hSw; (try dsimp only at hSw); go_simp <;> with_reducible rfl)
        try simp only [Act.put, List.setIfInBounds_toArray, List.set_cons_zero, List.set_cons_succ, List.getElem_toArray, List.getElem_cons_succ, List.getElem_cons_zero]
        refine wpAnyH_take (i := 15) (v := ?_) rfl (by kernel_rfl) (by kernel_rfl) (by kernel_rfl) (fun _ _ _ h => h) (Or.inl ⟨by rfl, ?_⟩) hHeld ?_
        rotate_left 1
        · (intro w hSw; (try dsimp only at hSw); go_simp <;> with_reducible rfl)
        try simp only [Act.put, List.setIfInBounds_toArray, List.set_cons_zero, List.set_cons_succ, List.getElem_toArray, List.getElem_cons_succ, List.getElem_cons_zero]
        refine wpAnyH_done (by kernel_rfl) ?_ _
        clear hHeld
        have HGZ := hid (HG4.out.keep0 f9)
        have HISZ := hid (HIS4.out.keep f9 (fun _ _ h => h) (fun _ _ h => h))
        have HFZ := hid (HF4.out.trans (f9.mono (fun _ _ h => h.elim)))
        have HQZ := hid (HQ4.out.keep f9 (fun h => h))
        have HNQ : Hid (¬ q ∈ footOf (.slice ao3 nO cap3)) := hid (fun hb => by have h1 := HAB.out q hb; have h2 := HG.out.blk.lt; omega)
        clear f9 f0 HG4 HIS4 HF4 HQ4 HB4
        generalize w9 = wZ at *
        have n0 : wZ.cell? ⟨qn, 0, none⟩ = some (.int .i64 (n : Int)) := HQZ.out.cell 0 rfl
        have y0 : wZ.frozen? ⟨q, 0, none⟩ = false := HGZ.out.blk.free 0
        have m0 : wZ.cell? ⟨q, 0, none⟩ = some (.int .i64 (st : Int)) := HGZ.out.blk.cell 0 rfl
        go_upto_region 11 with (fail)
        have HBY : Hid (Blk (wZ.setCell ⟨q, 0, none⟩ (.int .i64 (n : Int))) q (refA (n : Int) fl lv' la') 92) := hid (HGZ.out.blk.set' 0 _ rfl)
        have HFY : Hid (Fr (· = q) wZ (wZ.setCell ⟨q, 0, none⟩ (.int .i64 (n : Int)))) := hid ((Fr.refl _ wZ).set1 _ _)
        have HQY := hid (HQZ.out.keep HFY.out (fun e => HQQ.out e))
        clear n0 y0 m0
        generalize wZ.setCell ⟨q, 0, none⟩ (.int .i64 (n : Int)) = wY at *
        go_wp2_with (first | (refine wpList_load_part rfl 89 _ rfl aggKeys9 qn 1 rfl HQY.out #[.int .i64 kf.s, .int .i64 kf.r, .int .i64 kf.p, .int .i64 kf.q, .int .i64 kf.s, .int .i64 kf.r, .int .i64 kf.p, .int .i64 kf.q, .int .i64 kf.s, .int .i64 kf.r, .int .i64 kf.p, .int .i64 kf.q, .int .i64 kf.s, .int .i64 kf.r, .int .i64 kf.p, .int .i64 kf.q, .int .i64 kf.s, .int .i64 kf.r, .int .i64 kf.p, .int .i64 kf.q, .int .i64 kf.s, .int .i64 kf.r, .int .i64 kf.p, .int .i64 kf.q, .int .i64 kf.s, .int .i64 kf.r, .int .i64 kf.p, .int .i64 kf.q, .int .i64 kf.s, .int .i64 kf.r, .int .i64 kf.p, .int .i64 kf.q, .int .i64 kf.s, .int .i64 kf.r, .int .i64 kf.p, .int .i64 kf.q] rfl rfl ?_) | (refine wpList_store_part rfl 89 _ _ rfl aggKeys9 q 1 rfl HBY.out _ rfl rfl (one_keys9 kf) (Nat.le_of_ble_eq_true rfl) (refA (n : Int) (fun _ => kf) lv' la') (refA_fl9 _ _ _ _ _) ?_))
        intro wX BX fX zX
        have HBX := hid BX
        have HFX := hid (HFY.out.trans fX)
        have HQX := hid (HQY.out.keep fX (fun e => HQQ.out e))
        clear BX fX zX HBY HFY HQY
        go_wp2_with (first | (refine wpList_load_part rfl 90 _ rfl aggRows9 qn 37 rfl HQX.out #[.slice none 0 0, .slice none 0 0, .slice none 0 0, .slice none 0 0, .slice none 0 0, .slice none 0 0, .slice none 0 0, .slice none 0 0, .slice none 0 0] rfl rfl ?_) | (refine wpList_store_part rfl 90 _ _ rfl aggRows9 q 37 rfl HBX.out _ rfl rfl one_rows9 (Nat.le_of_ble_eq_true rfl) (refA (n : Int) (fun _ => kf) (fun _ => .slice none 0 0) la') (refA_lv9 _ _ _ _) ?_))
        intro wV BV fV zV
        have HBV := hid BV
        have HFV := hid (HFX.out.trans fV)
        have HQV := hid (HQX.out.keep fV (fun e => HQQ.out e))
        clear BV fV zV HBX HFX HQX
        go_wp2_with (first | (refine wpList_load_part rfl 32 _ rfl aggKey qn 46 rfl HQV.out #[.int .i64 kf.s, .int .i64 kf.r, .int .i64 kf.p, .int .i64 kf.q] rfl rfl ?_) | (refine wpList_store_part rfl 32 _ _ rfl aggKey q 46 rfl HBV.out (.agg #[.int .i64 kf.s, .int .i64 kf.r, .int .i64 kf.p, .int .i64 kf.q]) rfl rfl (one_key kf) (Nat.le_of_ble_eq_true rfl) (refA (n : Int) (fun _ => kf) (fun _ => .slice none 0 0) kf) (refA_la9 _ _ _ _ _) ?_))
        intro wU BU fU zU
        have HFU := hid (HFV.out.trans fU)
        go_wp2_with fail
        go_ret2
        exact ⟨_, _, _, out, i, rfl, HIT.out, HST.out, ⟨BU, fun _ _ => Its.nil _, fun _ _ _ _ _ b hb => by simp [footOf, Value.ownBlock] at hb, HH5.out, fun _ _ _ => rfl⟩, HISZ.out.keepT HGZ.out.blk HFU.out (by decide) (by decide), fun b hb => Nat.le_trans HFA.out.size (HAB.out b hb), HIN.out, (HFA.out.mono (fun _ _ h => h.elim)).trans (HFZ.out.trans HFU.out)⟩
end
end Go.Proofs.Ytfkffjjkmckpnaa
