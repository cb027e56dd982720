/-
  THE DOCUMENT'S MERGE (ch 25): Put. Conditions: fewer than 100000 items.
-/
import Derived.Test.YtfkffjjkmckpnaaMgP4
namespace Go.Proofs.Ytfkffjjkmckpnaa
open Go.RowKit Go.ChangeShapes Go.WideShapes Go.Deep

set_option linter.unusedSimpArgs false
set_option maxRecDepth 100000
theorem forkV {Q : Prop} {F G : Value → Nat → World → Prop} (h1 : (∀ v z W, F v z W → G v z W) → Q) (h2 : ∀ v z W, F v z W → G v z W) : Q := h1 h2
section
variable {w : World} {q st : Nat} {fl : Nat → Ky} {lv : Nat → Value} {L : Nat → List It} {la : Ky}
theorem rput_bad1 (n : Int) (x : PI) (v : Value) (h : RG w q st fl lv L la) (hb : hasB st n = false) : Calls Try.prog 40 #[.pointer (some ⟨q, 0, none⟩), .int .i64 n, .agg (x.a v)] w fun e w' => e = .returned (.tuple #[.bool false, .int .i64 2]) ∧ Fr (fun _ => False) w w' := by
  have HH := hid (fun W (f : Fr (fun _ => False) w W) => has_any n (h.keep0 f))
  rw [hb] at HH
  clear h hb
  go_enter Try.func40, Try.ntmps40
  go_wp2_with (refine wpList_boxed rfl 46 _ rfl (x.a v) rfl ?_)
  intro b w1 hb B1 f1 z1
  have HF1 := hid f1
  clear hb B1 f1 z1
  go_wp2_with fail
  with_reducible refine (HH.out _ HF1.out).mono ?_
  rintro e w2 ⟨rfl, rfl⟩
  go_wp2_with fail
  go_ret2
  exact ⟨rfl, HF1.out⟩
theorem rput_bad2 (n : Int) (x : PI) (v : Value) (h : RG w q st fl lv L la) (hh : hasB st n = true) (hb : x.k.ok = false) : Calls Try.prog 40 #[.pointer (some ⟨q, 0, none⟩), .int .i64 n, .agg (x.a v)] w fun e w' => e = .returned (.tuple #[.bool false, .int .i64 2]) ∧ Fr (fun _ => False) w w' := by
  have HH := hid (fun W (f : Fr (fun _ => False) w W) => has_any n (h.keep0 f))
  rw [hh] at HH
  have HCK := hid (fun W => rcheck_any x.k.s x.k.r x.k.p x.k.q W)
  rw [show okKey x.k.s x.k.r x.k.p x.k.q = false from hb] at HCK
  clear h hh hb
  go_enter Try.func40, Try.ntmps40
  go_wp2_with (refine wpList_boxed rfl 46 _ rfl (x.a v) rfl ?_)
  intro b w1 hb B1 f1 z1
  have HF1 := hid f1
  have HB1 := hid B1
  clear hb B1 f1 z1
  have c0 : w1.cell? ⟨b, 0, none⟩ = some (.int .i64 x.k.s) := HB1.out.cell 0 rfl
  have c1 : w1.cell? ⟨b, 1, none⟩ = some (.int .i64 x.k.r) := HB1.out.cell 1 rfl
  have c2 : w1.cell? ⟨b, 2, none⟩ = some (.int .i64 x.k.p) := HB1.out.cell 2 rfl
  have c3 : w1.cell? ⟨b, 3, none⟩ = some (.int .i64 x.k.q) := HB1.out.cell 3 rfl
  go_wp2_with fail
  with_reducible refine (HH.out _ HF1.out).mono ?_
  rintro e w2 ⟨rfl, rfl⟩
  go_wp2_with fail
  with_reducible refine (HCK.out _).mono ?_
  rintro e w3 ⟨rfl, f3⟩
  go_wp2_with fail
  go_ret2
  exact ⟨rfl, HF1.out.trans f3⟩
theorem rput_old (i : Nat) (x : PI) (v : Value) (h : RG w q st fl lv L la) (hi : i < 9) (hh : hasB st (i : Int) = true) (hk : x.k.ok = true) (hc : ¬ 0 < kc x.k (fl i)) : Calls Try.prog 40 #[.pointer (some ⟨q, 0, none⟩), .int .i64 (i : Int), .agg (x.a v)] w fun e w' => e = .returned (.tuple #[.bool false, .int .i64 0]) ∧ Fr (fun _ => False) w w' := by
  have HG := hid h
  have HI := hid hi
  have HH := hid (fun W (f : Fr (fun _ => False) w W) => has_any (i : Int) (h.keep0 f))
  rw [hh] at HH
  have HCK := hid (fun W => rcheck_any x.k.s x.k.r x.k.p x.k.q W)
  rw [show okKey x.k.s x.k.r x.k.p x.k.q = true from hk] at HCK
  have HKC := hid (fun W => rkeys_any x.k.s x.k.r x.k.p x.k.q (fl i).s (fl i).r (fl i).p (fl i).q W)
  rw [show kcmp x.k.s x.k.r x.k.p x.k.q (fl i).s (fl i).r (fl i).p (fl i).q = kc x.k (fl i) from rfl] at HKC
  obtain ⟨C, hC⟩ : ∃ C, kc x.k (fl i) = C := ⟨_, rfl⟩
  rw [hC] at HKC hc
  have hi9 : (i : Int) < 9 := by omega
  clear h hh hk hC
  go_enter Try.func40, Try.ntmps40
  go_wp2_with (refine wpList_boxed rfl 46 _ rfl (x.a v) rfl ?_)
  intro b w1 hb B1 f1 z1
  have HF1 := hid f1
  have HB1 := hid B1
  have HBW : Hid (w.heap.size ≤ b) := hid (by omega)
  have HBQ : Hid (b ≠ q) := hid (by have := HG.out.blk.lt; omega)
  clear hb B1 f1 z1
  have c0 : w1.cell? ⟨b, 0, none⟩ = some (.int .i64 x.k.s) := HB1.out.cell 0 rfl
  have c1 : w1.cell? ⟨b, 1, none⟩ = some (.int .i64 x.k.r) := HB1.out.cell 1 rfl
  have c2 : w1.cell? ⟨b, 2, none⟩ = some (.int .i64 x.k.p) := HB1.out.cell 2 rfl
  have c3 : w1.cell? ⟨b, 3, none⟩ = some (.int .i64 x.k.q) := HB1.out.cell 3 rfl
  go_wp2_with fail
  with_reducible refine (HH.out _ HF1.out).mono ?_
  rintro e w2 ⟨rfl, rfl⟩
  go_wp2_with fail
  with_reducible refine (HCK.out _).mono ?_
  rintro e w3 ⟨rfl, f3⟩
  have HF3 := hid (HF1.out.trans f3)
  have HB3 := hid (HB1.out.keep f3 (fun h => h))
  have HG3 := hid (HG.out.keep0 HF3.out)
  clear f3 c0 c1 c2 c3 HB1 HF1 HCK HH
  have PS : Hid (∀ W, Fr (fun _ => False) w3 W → W.cell? ⟨b, 0, none⟩ = some (.int .i64 x.k.s) ∧ W.cell? ⟨b, 1, none⟩ = some (.int .i64 x.k.r) ∧ W.cell? ⟨b, 2, none⟩ = some (.int .i64 x.k.p) ∧ W.cell? ⟨b, 3, none⟩ = some (.int .i64 x.k.q) ∧ W.cell? ⟨q, 1 + i * 4, none⟩ = some (.int .i64 (fl i).s) ∧ W.cell? ⟨q, 1 + i * 4 + 1, none⟩ = some (.int .i64 (fl i).r) ∧ W.cell? ⟨q, 1 + i * 4 + 2, none⟩ = some (.int .i64 (fl i).p) ∧ W.cell? ⟨q, 1 + i * 4 + 3, none⟩ = some (.int .i64 (fl i).q)) := hid (fun W f => by
    have a := HB3.out.keep f (fun h => h)
    have g := HG3.out.blk.keep f (fun h => h)
    obtain ⟨q0, q1, q2, q3⟩ := refA_fl (st : Int) fl lv la HI.out
    exact ⟨a.cell 0 rfl, a.cell 1 rfl, a.cell 2 rfl, a.cell 3 rfl, g.cell _ q0, g.cell _ q1, g.cell _ q2, g.cell _ q3⟩)
  have f0 : Fr (fun _ => False) w3 w3.drew := (Fr.refl _ _).drew
  have d1 : decide (C ≤ 0) = true := decide_eq_true (by omega)
  go_wp2_with fail
  refine wp_region_held_drew (S := fun W => W.cell? ⟨b, 0, none⟩ = some (.int .i64 x.k.s) ∧ W.cell? ⟨b, 1, none⟩ = some (.int .i64 x.k.r) ∧ W.cell? ⟨b, 2, none⟩ = some (.int .i64 x.k.p) ∧ W.cell? ⟨b, 3, none⟩ = some (.int .i64 x.k.q) ∧ W.cell? ⟨q, 1 + i * 4, none⟩ = some (.int .i64 (fl i).s) ∧ W.cell? ⟨q, 1 + i * 4 + 1, none⟩ = some (.int .i64 (fl i).r) ∧ W.cell? ⟨q, 1 + i * 4 + 2, none⟩ = some (.int .i64 (fl i).p) ∧ W.cell? ⟨q, 1 + i * 4 + 3, none⟩ = some (.int .i64 (fl i).q)) (by kernel_rfl) (PS.out _ f0) (fun hHeld => ?_)
  refine wpAnyH_take (i := 0) (v := ?_) rfl (by kernel_rfl) (by kernel_rfl) (by kernel_rfl) (fun _ _ _ h => h) (Or.inl ⟨by rfl, ?_⟩) hHeld ?_
  rotate_left 1
  · (intro w hSw; (try dsimp only at hSw); go_simp <;> with_reducible rfl)
  try simp only [Act.put, List.setIfInBounds_toArray, List.set_cons_zero, List.set_cons_succ, List.getElem_toArray, List.getElem_cons_succ, List.getElem_cons_zero]
  refine wpAnyH_take (i := 1) (v := ?_) rfl (by kernel_rfl) (by kernel_rfl) (by kernel_rfl) (fun _ _ _ h => h) (Or.inl ⟨by rfl, ?_⟩) hHeld ?_
  rotate_left 1
  · (intro w hSw; (try dsimp only at hSw); go_simp <;> with_reducible rfl)
  try simp only [Act.put, List.setIfInBounds_toArray, List.set_cons_zero, List.set_cons_succ, List.getElem_toArray, List.getElem_cons_succ, List.getElem_cons_zero]
  refine wpAnyH_take (i := 2) (v := ?_) rfl (by kernel_rfl) (by kernel_rfl) (by kernel_rfl) (fun _ _ _ h => h) (Or.inl ⟨by rfl, ?_⟩) hHeld ?_
  rotate_left 1
  · (intro w hSw; (try dsimp only at hSw); go_simp <;> with_reducible rfl)
  try simp only [Act.put, List.setIfInBounds_toArray, List.set_cons_zero, List.set_cons_succ, List.getElem_toArray, List.getElem_cons_succ, List.getElem_cons_zero]
  refine wpAnyH_take (i := 3) (v := ?_) rfl (by kernel_rfl) (by kernel_rfl) (by kernel_rfl) (fun _ _ _ h => h) (Or.inl ⟨by rfl, ?_⟩) hHeld ?_
  rotate_left 1
  · (intro w hSw; (try dsimp only at hSw); go_simp <;> with_reducible rfl)
  try simp only [Act.put, List.setIfInBounds_toArray, List.set_cons_zero, List.set_cons_succ, List.getElem_toArray, List.getElem_cons_succ, List.getElem_cons_zero]
  refine wpAnyH_take (i := 4) (v := ?_) rfl (by kernel_rfl) (by kernel_rfl) (by kernel_rfl) (fun _ _ _ h => h) (Or.inl ⟨by rfl, ?_⟩) hHeld ?_
  rotate_left 1
  · (intro w hSw; (try dsimp only at hSw); go_simp <;> with_reducible rfl)
  try simp only [Act.put, List.setIfInBounds_toArray, List.set_cons_zero, List.set_cons_succ, List.getElem_toArray, List.getElem_cons_succ, List.getElem_cons_zero]
  refine wpAnyH_take (i := 5) (v := ?_) rfl (by kernel_rfl) (by kernel_rfl) (by kernel_rfl) (fun _ _ _ h => h) (Or.inl ⟨by rfl, ?_⟩) hHeld ?_
  rotate_left 1
  · (intro w hSw; (try dsimp only at hSw); go_simp <;> with_reducible rfl)
  try simp only [Act.put, List.setIfInBounds_toArray, List.set_cons_zero, List.set_cons_succ, List.getElem_toArray, List.getElem_cons_succ, List.getElem_cons_zero]
  refine wpAnyH_take (i := 6) (v := ?_) rfl (by kernel_rfl) (by kernel_rfl) (by kernel_rfl) (fun _ _ _ h => h) (Or.inl ⟨by rfl, ?_⟩) hHeld ?_
  rotate_left 1
  · (intro w hSw; (try dsimp only at hSw); go_simp <;> with_reducible rfl)
  try simp only [Act.put, List.setIfInBounds_toArray, List.set_cons_zero, List.set_cons_succ, List.getElem_toArray, List.getElem_cons_succ, List.getElem_cons_zero]
  refine wpAnyH_take (i := 7) (v := ?_) rfl (by kernel_rfl) (by kernel_rfl) (by kernel_rfl) (fun _ _ _ h => h) (Or.inl ⟨by rfl, ?_⟩) hHeld ?_
  rotate_left 1
  · (intro w hSw; (try dsimp only at hSw); go_simp <;> with_reducible rfl)
  try simp only [Act.put, List.setIfInBounds_toArray, List.set_cons_zero, List.set_cons_succ, List.getElem_toArray, List.getElem_cons_succ, List.getElem_cons_zero]
  refine wpAnyH_ready (rs := [8]) (by kernel_rfl) (by simp) ?_
  refine AllReadyH.cons rfl (fun K hK => ?_) AllReadyH.nil
  clear hHeld
  go_simp
  go_at_call 56
  refine (HKC.out _).mono ?_
  rintro e w9 ⟨rfl, hacc⟩
  have f9 := f0.trans hacc
  clear hacc
  refine hK.out _ _ (PS.out _ f9) (fun hHeld => ?_)
  clear hK K
  try simp only [Act.put, List.setIfInBounds_toArray, List.set_cons_zero, List.set_cons_succ, List.getElem_toArray, List.getElem_cons_succ, List.getElem_cons_zero]
  refine wpAnyH_take (i := 9) (v := ?_) rfl (by kernel_rfl) (by kernel_rfl) (by kernel_rfl) (fun _ _ _ h => h) (Or.inl ⟨by rfl, ?_⟩) hHeld ?_
  rotate_left 1
  · (intro w hSw; (try dsimp only at hSw); go_simp <;> with_reducible rfl)
  try simp only [Act.put, List.setIfInBounds_toArray, List.set_cons_zero, List.set_cons_succ, List.getElem_toArray, List.getElem_cons_succ, List.getElem_cons_zero]
  refine wpAnyH_done (by kernel_rfl) ?_ _
  clear hHeld
  go_wp2_with fail
  go_ret2
  exact ⟨rfl, HF3.out.trans f9⟩
set_option maxHeartbeats 2000000 in
theorem rput_ok (i : Nat) (x : PI) (v : Value) (h : RG w q st fl lv L la) (hi : i < 9) (hh : hasB st (i : Int) = true) (hk : x.k.ok = true) (hc : 0 < kc x.k (fl i)) (hbd : bodyAt w v x.bs) (hl : (L i).length < 100000) : Calls Try.prog 40 #[.pointer (some ⟨q, 0, none⟩), .int .i64 (i : Int), .agg (x.a v)] w fun e w' => ∃ v' v2, e = .returned (.tuple #[.bool true, .int .i64 0]) ∧ RG w' q st (set1 fl i x.k) (set1 lv i v') (set1 L i (L i ++ [⟨x, v2⟩])) la ∧ Fr (fun b => b = q ∨ b ∈ footOf (lv i)) w w' ∧ (∀ b, b ∈ footOf v' → b ∈ footOf (lv i) ∨ w.heap.size ≤ b) ∧ (∀ b, b ∈ footOf v2 → w.heap.size ≤ b) := by
  have HBD := hid hbd
  have HLL := hid hl
  have HBIT : Hid (st.testBit i = true) := hid (by unfold hasB at hh; simpa using (of_decide_eq_true hh).2.2)
  clear hbd hl
  have HG := hid h
  have HI := hid hi
  have HH := hid (fun W (f : Fr (fun _ => False) w W) => has_any (i : Int) (h.keep0 f))
  rw [hh] at HH
  have HCK := hid (fun W => rcheck_any x.k.s x.k.r x.k.p x.k.q W)
  rw [show okKey x.k.s x.k.r x.k.p x.k.q = true from hk] at HCK
  have HKC := hid (fun W => rkeys_any x.k.s x.k.r x.k.p x.k.q (fl i).s (fl i).r (fl i).p (fl i).q W)
  rw [show kcmp x.k.s x.k.r x.k.p x.k.q (fl i).s (fl i).r (fl i).p (fl i).q = kc x.k (fl i) from rfl] at HKC
  obtain ⟨C, hC⟩ : ∃ C, kc x.k (fl i) = C := ⟨_, rfl⟩
  rw [hC] at HKC hc
  have hi9 : (i : Int) < 9 := by omega
  clear h hh hk hC
  go_enter Try.func40, Try.ntmps40
  go_wp2_with (refine wpList_boxed rfl 46 _ rfl (x.a v) rfl ?_)
  intro b w1 hb B1 f1 z1
  have HF1 := hid f1
  have HB1 := hid B1
  have HBW : Hid (w.heap.size ≤ b) := hid (by omega)
  have HBQ : Hid (b ≠ q) := hid (by have := HG.out.blk.lt; omega)
  clear hb B1 f1 z1
  have c0 : w1.cell? ⟨b, 0, none⟩ = some (.int .i64 x.k.s) := HB1.out.cell 0 rfl
  have c1 : w1.cell? ⟨b, 1, none⟩ = some (.int .i64 x.k.r) := HB1.out.cell 1 rfl
  have c2 : w1.cell? ⟨b, 2, none⟩ = some (.int .i64 x.k.p) := HB1.out.cell 2 rfl
  have c3 : w1.cell? ⟨b, 3, none⟩ = some (.int .i64 x.k.q) := HB1.out.cell 3 rfl
  go_wp2_with fail
  with_reducible refine (HH.out _ HF1.out).mono ?_
  rintro e w2 ⟨rfl, rfl⟩
  go_wp2_with fail
  with_reducible refine (HCK.out _).mono ?_
  rintro e w3 ⟨rfl, f3⟩
  have HF3 := hid (HF1.out.trans f3)
  have HB3 := hid (HB1.out.keep f3 (fun h => h))
  have HG3 := hid (HG.out.keep0 HF3.out)
  clear f3 c0 c1 c2 c3 HB1 HF1 HCK HH
  have PS : Hid (∀ W, Fr (fun _ => False) w3 W → W.cell? ⟨b, 0, none⟩ = some (.int .i64 x.k.s) ∧ W.cell? ⟨b, 1, none⟩ = some (.int .i64 x.k.r) ∧ W.cell? ⟨b, 2, none⟩ = some (.int .i64 x.k.p) ∧ W.cell? ⟨b, 3, none⟩ = some (.int .i64 x.k.q) ∧ W.cell? ⟨q, 1 + i * 4, none⟩ = some (.int .i64 (fl i).s) ∧ W.cell? ⟨q, 1 + i * 4 + 1, none⟩ = some (.int .i64 (fl i).r) ∧ W.cell? ⟨q, 1 + i * 4 + 2, none⟩ = some (.int .i64 (fl i).p) ∧ W.cell? ⟨q, 1 + i * 4 + 3, none⟩ = some (.int .i64 (fl i).q)) := hid (fun W f => by
    have a := HB3.out.keep f (fun h => h)
    have g := HG3.out.blk.keep f (fun h => h)
    obtain ⟨q0, q1, q2, q3⟩ := refA_fl (st : Int) fl lv la HI.out
    exact ⟨a.cell 0 rfl, a.cell 1 rfl, a.cell 2 rfl, a.cell 3 rfl, g.cell _ q0, g.cell _ q1, g.cell _ q2, g.cell _ q3⟩)
  have f0 : Fr (fun _ => False) w3 w3.drew := (Fr.refl _ _).drew
  have d1 : decide (C ≤ 0) = false := decide_eq_false (by omega)
  go_wp2_with fail
  refine wp_region_held_drew (S := fun W => W.cell? ⟨b, 0, none⟩ = some (.int .i64 x.k.s) ∧ W.cell? ⟨b, 1, none⟩ = some (.int .i64 x.k.r) ∧ W.cell? ⟨b, 2, none⟩ = some (.int .i64 x.k.p) ∧ W.cell? ⟨b, 3, none⟩ = some (.int .i64 x.k.q) ∧ W.cell? ⟨q, 1 + i * 4, none⟩ = some (.int .i64 (fl i).s) ∧ W.cell? ⟨q, 1 + i * 4 + 1, none⟩ = some (.int .i64 (fl i).r) ∧ W.cell? ⟨q, 1 + i * 4 + 2, none⟩ = some (.int .i64 (fl i).p) ∧ W.cell? ⟨q, 1 + i * 4 + 3, none⟩ = some (.int .i64 (fl i).q)) (by kernel_rfl) (PS.out _ f0) (fun hHeld => ?_)
  refine wpAnyH_take (i := 0) (v := ?_) rfl (by kernel_rfl) (by kernel_rfl) (by kernel_rfl) (fun _ _ _ h => h) (Or.inl ⟨by rfl, ?_⟩) hHeld ?_
  rotate_left 1
  · (intro w hSw; (try dsimp only at hSw); go_simp <;> with_reducible rfl)
  try simp only [Act.put, List.setIfInBounds_toArray, List.set_cons_zero, List.set_cons_succ, List.getElem_toArray, List.getElem_cons_succ, List.getElem_cons_zero]
  refine wpAnyH_take (i := 1) (v := ?_) rfl (by kernel_rfl) (by kernel_rfl) (by kernel_rfl) (fun _ _ _ h => h) (Or.inl ⟨by rfl, ?_⟩) hHeld ?_
  rotate_left 1
  · (intro w hSw; (try dsimp only at hSw); go_simp <;> with_reducible rfl)
  try simp only [Act.put, List.setIfInBounds_toArray, List.set_cons_zero, List.set_cons_succ, List.getElem_toArray, List.getElem_cons_succ, List.getElem_cons_zero]
  refine wpAnyH_take (i := 2) (v := ?_) rfl (by kernel_rfl) (by kernel_rfl) (by kernel_rfl) (fun _ _ _ h => h) (Or.inl ⟨by rfl, ?_⟩) hHeld ?_
  rotate_left 1
  · (intro w hSw; (try dsimp only at hSw); go_simp <;> with_reducible rfl)
  try simp only [Act.put, List.setIfInBounds_toArray, List.set_cons_zero, List.set_cons_succ, List.getElem_toArray, List.getElem_cons_succ, List.getElem_cons_zero]
  refine wpAnyH_take (i := 3) (v := ?_) rfl (by kernel_rfl) (by kernel_rfl) (by kernel_rfl) (fun _ _ _ h => h) (Or.inl ⟨by rfl, ?_⟩) hHeld ?_
  rotate_left 1
  · (intro w hSw; (try dsimp only at hSw); go_simp <;> with_reducible rfl)
  try simp only [Act.put, List.setIfInBounds_toArray, List.set_cons_zero, List.set_cons_succ, List.getElem_toArray, List.getElem_cons_succ, List.getElem_cons_zero]
  refine wpAnyH_take (i := 4) (v := ?_) rfl (by kernel_rfl) (by kernel_rfl) (by kernel_rfl) (fun _ _ _ h => h) (Or.inl ⟨by rfl, ?_⟩) hHeld ?_
  rotate_left 1
  · (intro w hSw; (try dsimp only at hSw); go_simp <;> with_reducible rfl)
  try simp only [Act.put, List.setIfInBounds_toArray, List.set_cons_zero, List.set_cons_succ, List.getElem_toArray, List.getElem_cons_succ, List.getElem_cons_zero]
  refine wpAnyH_take (i := 5) (v := ?_) rfl (by kernel_rfl) (by kernel_rfl) (by kernel_rfl) (fun _ _ _ h => h) (Or.inl ⟨by rfl, ?_⟩) hHeld ?_
  rotate_left 1
  · (intro w hSw; (try dsimp only at hSw); go_simp <;> with_reducible rfl)
  try simp only [Act.put, List.setIfInBounds_toArray, List.set_cons_zero, List.set_cons_succ, List.getElem_toArray, List.getElem_cons_succ, List.getElem_cons_zero]
  refine wpAnyH_take (i := 6) (v := ?_) rfl (by kernel_rfl) (by kernel_rfl) (by kernel_rfl) (fun _ _ _ h => h) (Or.inl ⟨by rfl, ?_⟩) hHeld ?_
  rotate_left 1
  · (intro w hSw; (try dsimp only at hSw); go_simp <;> with_reducible rfl)
  try simp only [Act.put, List.setIfInBounds_toArray, List.set_cons_zero, List.set_cons_succ, List.getElem_toArray, List.getElem_cons_succ, List.getElem_cons_zero]
  refine wpAnyH_take (i := 7) (v := ?_) rfl (by kernel_rfl) (by kernel_rfl) (by kernel_rfl) (fun _ _ _ h => h) (Or.inl ⟨by rfl, ?_⟩) hHeld ?_
  rotate_left 1
  · (intro w hSw; (try dsimp only at hSw); go_simp <;> with_reducible rfl)
  try simp only [Act.put, List.setIfInBounds_toArray, List.set_cons_zero, List.set_cons_succ, List.getElem_toArray, List.getElem_cons_succ, List.getElem_cons_zero]
  refine wpAnyH_ready (rs := [8]) (by kernel_rfl) (by simp) ?_
  refine AllReadyH.cons rfl (fun K hK => ?_) AllReadyH.nil
  clear hHeld
  go_simp
  go_at_call 56
  refine (HKC.out _).mono ?_
  rintro e w9 ⟨rfl, hacc⟩
  have f9 := f0.trans hacc
  clear hacc
  refine hK.out _ _ (PS.out _ f9) (fun hHeld => ?_)
  clear hK K
  try simp only [Act.put, List.setIfInBounds_toArray, List.set_cons_zero, List.set_cons_succ, List.getElem_toArray, List.getElem_cons_succ, List.getElem_cons_zero]
  refine wpAnyH_take (i := 9) (v := ?_) rfl (by kernel_rfl) (by kernel_rfl) (by kernel_rfl) (fun _ _ _ h => h) (Or.inl ⟨by rfl, ?_⟩) hHeld ?_
  rotate_left 1
  · (intro w hSw; (try dsimp only at hSw); go_simp <;> with_reducible rfl)
  try simp only [Act.put, List.setIfInBounds_toArray, List.set_cons_zero, List.set_cons_succ, List.getElem_toArray, List.getElem_cons_succ, List.getElem_cons_zero]
  refine wpAnyH_done (by kernel_rfl) ?_ _
  clear hHeld
  have HB4 := hid (HB3.out.keep f9 (fun h => h))
  have HG4 := hid (HG3.out.keep0 f9)
  have HF4 := hid (HF3.out.trans f9)
  have HBV4 := hid (HBD.out.keep HF4.out (fun _ _ _ h => h))
  clear PS f0 f9 HKC d1 HB3 HG3 HF3 HBD
  obtain ⟨sa, sc, hsv⟩ := (HG4.out.row i HI.out).1.shape
  obtain ⟨NL, hNL⟩ : ∃ NL, NL = (L i).length := ⟨_, rfl⟩
  rw [← hNL] at hsv
  have HSV := hid hsv
  have HNL := hid hNL
  have HNB : Hid (NL < 100000) := hid (by have := HLL.out; omega)
  have HOR : Hid (ORow w9 46 21 (.slice sa NL sc) NL ((L i).flatMap It.l)) := hid (by have h := (HG4.out.row i HI.out).1; rw [hsv, ← hNL] at h; exact h)
  have HXN : Hid (¬ b ∈ footOf (.slice sa NL sc) ∧ b ≠ q) := hid ⟨fun hb => by
    have h1 := (HG.out.row i HI.out).1.live b (by rw [hsv]; exact hb)
    have h2 := HBW.out
    omega, HBQ.out⟩
  have HSN : Hid (¬ q ∈ footOf (.slice sa NL sc)) := hid (fun hb => by
    obtain ⟨cs, k⟩ := HOR.out.type hb
    exact absurd (k.type HG4.out.blk) (by decide))
  have PC : Hid (∀ W, Fr (fun _ => False) w9 W → W.cell? ⟨q, 37 + i, none⟩ = some (.slice sa NL sc)) := hid (fun W f => by
    have g := (HG4.out.blk.keep f (fun h => h)).cell (37 + i) (refA_lv (st : Int) fl lv la HI.out)
    rw [hsv] at g
    exact g)
  have PX : Hid (∀ W, Fr (fun _ => False) w9 W → Blk W b (x.a v) 46) := hid (fun W f => HB4.out.keep f (fun h => h))
  have PC2 : Hid (∀ W W', Fr (fun _ => False) w9 W → Fr (· ∈ footOf (.slice sa NL sc)) W W' → Blk W' b (x.a v) 46 ∧ Blk W' q (refA (st : Int) fl lv la) 92) := hid (fun W W' f g => ⟨(HB4.out.keep f (fun h => h)).keep g HXN.out.1, (HG4.out.blk.keep f (fun h => h)).keep g HSN.out⟩)
  have HCP := hid (fun W (f : Fr (fun _ => False) w9 W) => copy25_any x v W (HBV4.out.keep f (fun _ _ _ h => h)))
  clear hsv hNL HB4
  obtain ⟨j0, hj0, j1, j2, j3⟩ := itemI
  go_wp2_with fail
  refine wp_region_held_drew (S := fun W => Blk W b (x.a v) 46) (by kernel_rfl) (PX.out _ (Fr.refl _ _).drew) (fun hHeld => ?_)
  have hacc : Fr (fun _ => False) w9 w9.drew := (Fr.refl _ _).drew
  refine wpAnyH_take (i := 0) (v := ?_) rfl (by kernel_rfl) (by kernel_rfl) (by kernel_rfl) (fun _ _ _ h => h) (Or.inl ⟨by rfl, ?_⟩) hHeld ?_
  rotate_left 1
  · (intro w hSw; (try dsimp only at hSw); go_simp <;> with_reducible rfl)
  try simp only [Act.put, List.setIfInBounds_toArray, List.set_cons_zero, List.set_cons_succ, List.getElem_toArray, List.getElem_cons_succ, List.getElem_cons_zero]
  refine wpAnyH_take (i := 1) (v := ?_) rfl (by kernel_rfl) (by kernel_rfl) (by kernel_rfl) (fun _ _ _ h => h) (Or.inl ⟨by rfl, ?_⟩) hHeld ?_
  rotate_left 1
  · (intro w hSw; (try dsimp only at hSw); go_simp <;> with_reducible rfl)
  try simp only [Act.put, List.setIfInBounds_toArray, List.set_cons_zero, List.set_cons_succ, List.getElem_toArray, List.getElem_cons_succ, List.getElem_cons_zero]
  refine wpAnyH_take (i := 2) (v := ?_) rfl (by kernel_rfl) (by kernel_rfl) (by kernel_rfl) (fun _ _ _ h => h) (Or.inl ⟨by rfl, ?_⟩) hHeld ?_
  rotate_left 1
  · (intro w hSw; (try dsimp only at hSw); go_simp <;> with_reducible rfl)
  try simp only [Act.put, List.setIfInBounds_toArray, List.set_cons_zero, List.set_cons_succ, List.getElem_toArray, List.getElem_cons_succ, List.getElem_cons_zero]
  refine wpAnyH_take (i := 3) (v := ?_) rfl (by kernel_rfl) (by kernel_rfl) (by kernel_rfl) (fun _ _ _ h => h) (Or.inl ⟨by rfl, ?_⟩) hHeld ?_
  rotate_left 1
  · (intro w hSw; (try dsimp only at hSw); go_simp <;> with_reducible rfl)
  try simp only [Act.put, List.setIfInBounds_toArray, List.set_cons_zero, List.set_cons_succ, List.getElem_toArray, List.getElem_cons_succ, List.getElem_cons_zero]
  refine wpAnyH_take (i := 4) (v := ?_) rfl (by kernel_rfl) (by kernel_rfl) (by kernel_rfl) (fun _ _ _ h => h) (Or.inl ⟨by rfl, ?_⟩) hHeld ?_
  rotate_left 1
  · (intro w hSw; (try dsimp only at hSw); go_simp <;> with_reducible rfl)
  try simp only [Act.put, List.setIfInBounds_toArray, List.set_cons_zero, List.set_cons_succ, List.getElem_toArray, List.getElem_cons_succ, List.getElem_cons_zero]
  refine wpAnyH_take (i := 5) (v := ?_) rfl (by kernel_rfl) (by kernel_rfl) (by kernel_rfl) (fun _ _ _ h => h) (Or.inl ⟨by rfl, ?_⟩) hHeld ?_
  rotate_left 1
  · (intro w hSw; (try dsimp only at hSw); go_simp <;> with_reducible rfl)
  try simp only [Act.put, List.setIfInBounds_toArray, List.set_cons_zero, List.set_cons_succ, List.getElem_toArray, List.getElem_cons_succ, List.getElem_cons_zero]
  refine wpAnyH_take (i := 6) (v := ?_) rfl (by kernel_rfl) (by kernel_rfl) (by kernel_rfl) (fun _ _ _ h => h) (Or.inl ⟨by rfl, ?_⟩) hHeld ?_
  rotate_left 1
  · (intro w hSw; (try dsimp only at hSw); go_simp <;> with_reducible rfl)
  try simp only [Act.put, List.setIfInBounds_toArray, List.set_cons_zero, List.set_cons_succ, List.getElem_toArray, List.getElem_cons_succ, List.getElem_cons_zero]
  refine wpAnyH_take (i := 8) (v := .agg (x.a v)) rfl (by kernel_rfl) (by kernel_rfl) (by kernel_rfl) (fun _ _ _ h => h) (yields_load_part (by rfl) 46 (.tmp 5) (by rfl) aggItem b 0 (by rfl) (fun W h => h) (x.a v) (by rfl) (by rfl)) hHeld ?_
  try simp only [Act.put, List.setIfInBounds_toArray, List.set_cons_zero, List.set_cons_succ, List.getElem_toArray, List.getElem_cons_succ, List.getElem_cons_zero]
  refine wpAnyH_take (i := 12) (v := ?_) rfl (by kernel_rfl) (by kernel_rfl) (by kernel_rfl) (fun _ _ _ h => h) (Or.inl ⟨by rfl, ?_⟩) hHeld ?_
  rotate_left 1
  · (intro w hSw; (try dsimp only at hSw); go_simp <;> with_reducible rfl)
  try simp only [Act.put, List.setIfInBounds_toArray, List.set_cons_zero, List.set_cons_succ, List.getElem_toArray, List.getElem_cons_succ, List.getElem_cons_zero]
  refine wpAnyH_take (i := 13) (v := ?_) rfl (by kernel_rfl) (by kernel_rfl) (by kernel_rfl) (fun _ _ _ h => h) (Or.inl ⟨by rfl, ?_⟩) hHeld ?_
  rotate_left 1
  · (intro w hSw; (try dsimp only at hSw); go_simp <;> with_reducible rfl)
  try simp only [Act.put, List.setIfInBounds_toArray, List.set_cons_zero, List.set_cons_succ, List.getElem_toArray, List.getElem_cons_succ, List.getElem_cons_zero]
  apply forkV (F := fun v2 z W => (0 : Nat) = 0 ∧ W.ownsRow 0 5 1 v2 x.bs.length (x.bs.map (.int .u8)) ∧ Above w9.drew.heap.size (footOf v2) ∧ Blk W z (x.a v2) 46 ∧ Fr (fun _ => False) w9 W)
  · intro key
    refine wpAnyH_ready (rs := [7, 9]) (by kernel_rfl) (by simp) ?_
    refine AllReadyH.cons rfl (fun K hK => ?_) (AllReadyH.cons rfl (fun K hK => ?_) (AllReadyH.nil))
    skip
    · skip
      have c0 := PC.out _ hacc
      go_simp
      clear c0
      refine hK.out _ _ (PX.out _ hacc) (fun hHeld => ?_)
      clear hK K
      try simp only [Act.put, List.setIfInBounds_toArray, List.set_cons_zero, List.set_cons_succ, List.getElem_toArray, List.getElem_cons_succ, List.getElem_cons_zero]
      refine wpAnyH_ready (rs := [9]) (by kernel_rfl) (by simp) ?_
      refine AllReadyH.cons rfl (fun K hK => ?_) (AllReadyH.nil)
      skip
      go_simp
      go_at_call 39
      refine (HCP.out _ hacc).mono ?_
      rintro e w8 ⟨v2, rfl, r8, a8, f8⟩
      have hacc := hacc.trans f8
      clear f8
      have HR8 := hid (And.intro rfl (And.intro r8 a8) : (0 : Nat) = 0 ∧ _ ∧ _)
      clear r8 a8
      refine hK.out _ _ (PX.out _ hacc) (fun hHeld => ?_)
      clear hK K
      try simp only [Act.put, List.setIfInBounds_toArray, List.set_cons_zero, List.set_cons_succ, List.getElem_toArray, List.getElem_cons_succ, List.getElem_cons_zero]
      refine wpAnyH_ready (rs := [10]) (by kernel_rfl) (by simp) ?_
      refine AllReadyH.cons rfl (fun K hK => ?_) (AllReadyH.nil)
      skip
      refine step_build_one (by rfl) 39 (.tmp 37) (by rfl) Try.underlying39 aggItem (by decide) (by decide) zeroItem (x.a v2) (by rfl) (by rfl) ?_
      intro z w11 hz8 B8 fB _
      have hacc := hacc.trans fB
      clear hz8
      refine hK.out _ _ (PX.out _ hacc) (fun hHeld => ?_)
      clear hK K
      try simp only [Act.put, List.setIfInBounds_toArray, List.set_cons_zero, List.set_cons_succ, List.getElem_toArray, List.getElem_cons_succ, List.getElem_cons_zero]
      refine wpAnyH_relist (l' := #[true, true, true, true, true, true, true, true, true, true, true, false, true, true, false, false]) (by kernel_rfl) ?_
      exact key v2 z w11 ⟨HR8.out.1, row_keep HR8.out.2.1 fB (fun _ _ h => h), HR8.out.2.2, B8, hacc⟩
    · skip
      go_simp
      go_at_call 39
      refine (HCP.out _ hacc).mono ?_
      rintro e w8 ⟨v2, rfl, r8, a8, f8⟩
      have hacc := hacc.trans f8
      clear f8
      have HR8 := hid (And.intro rfl (And.intro r8 a8) : (0 : Nat) = 0 ∧ _ ∧ _)
      clear r8 a8
      refine hK.out _ _ (PX.out _ hacc) (fun hHeld => ?_)
      clear hK K
      try simp only [Act.put, List.setIfInBounds_toArray, List.set_cons_zero, List.set_cons_succ, List.getElem_toArray, List.getElem_cons_succ, List.getElem_cons_zero]
      refine wpAnyH_ready (rs := [7, 10]) (by kernel_rfl) (by simp) ?_
      refine AllReadyH.cons rfl (fun K hK => ?_) (AllReadyH.cons rfl (fun K hK => ?_) (AllReadyH.nil))
      skip
      · skip
        have c0 := PC.out _ hacc
        go_simp
        clear c0
        refine hK.out _ _ (PX.out _ hacc) (fun hHeld => ?_)
        clear hK K
        try simp only [Act.put, List.setIfInBounds_toArray, List.set_cons_zero, List.set_cons_succ, List.getElem_toArray, List.getElem_cons_succ, List.getElem_cons_zero]
        refine wpAnyH_ready (rs := [10]) (by kernel_rfl) (by simp) ?_
        refine AllReadyH.cons rfl (fun K hK => ?_) (AllReadyH.nil)
        skip
        refine step_build_one (by rfl) 39 (.tmp 37) (by rfl) Try.underlying39 aggItem (by decide) (by decide) zeroItem (x.a v2) (by rfl) (by rfl) ?_
        intro z w11 hz8 B8 fB _
        have hacc := hacc.trans fB
        clear hz8
        refine hK.out _ _ (PX.out _ hacc) (fun hHeld => ?_)
        clear hK K
        try simp only [Act.put, List.setIfInBounds_toArray, List.set_cons_zero, List.set_cons_succ, List.getElem_toArray, List.getElem_cons_succ, List.getElem_cons_zero]
        refine wpAnyH_relist (l' := #[true, true, true, true, true, true, true, true, true, true, true, false, true, true, false, false]) (by kernel_rfl) ?_
        exact key v2 z w11 ⟨HR8.out.1, row_keep HR8.out.2.1 fB (fun _ _ h => h), HR8.out.2.2, B8, hacc⟩
      · skip
        refine step_build_one (by rfl) 39 (.tmp 37) (by rfl) Try.underlying39 aggItem (by decide) (by decide) zeroItem (x.a v2) (by rfl) (by rfl) ?_
        intro z w11 hz8 B8 fB _
        have hacc := hacc.trans fB
        clear hz8
        refine hK.out _ _ (PX.out _ hacc) (fun hHeld => ?_)
        clear hK K
        try simp only [Act.put, List.setIfInBounds_toArray, List.set_cons_zero, List.set_cons_succ, List.getElem_toArray, List.getElem_cons_succ, List.getElem_cons_zero]
        refine wpAnyH_ready (rs := [7]) (by kernel_rfl) (by simp) ?_
        refine AllReadyH.cons rfl (fun K hK => ?_) (AllReadyH.nil)
        skip
        have c0 := PC.out _ hacc
        go_simp
        clear c0
        refine hK.out _ _ (PX.out _ hacc) (fun hHeld => ?_)
        clear hK K
        try simp only [Act.put, List.setIfInBounds_toArray, List.set_cons_zero, List.set_cons_succ, List.getElem_toArray, List.getElem_cons_succ, List.getElem_cons_zero]
        refine wpAnyH_relist (l' := #[true, true, true, true, true, true, true, true, true, true, true, false, true, true, false, false]) (by kernel_rfl) ?_
        exact key v2 z w11 ⟨HR8.out.1, row_keep HR8.out.2.1 fB (fun _ _ h => h), HR8.out.2.2, B8, hacc⟩
  clear hacc
  intro v2 z w8 hF
  obtain ⟨_, r8, a8, B8, hacc⟩ := hF
  obtain ⟨o2, c2, hv2⟩ := row_shape r8
  subst hv2
  have HRZ := hid r8
  have HA8 := hid a8
  clear r8 a8
  refine wpAnyH_ready (rs := [11]) (by kernel_rfl) (by simp) ?_
  refine AllReadyH.cons rfl (fun K hK => ?_) (AllReadyH.nil)
  skip
  refine step_append_orow (by rfl) (.tmp 35) (.tmp 38) 39 (by rfl) 46 j0 _ 21 184 Try.underlying39 hj0 j1 j2 j3 rfl (by decide) (.slice sa NL sc) NL ((L i).flatMap It.l) (by rfl) (HOR.out.keep hacc (fun _ _ h => h)) ⟨z, 0, none⟩ 1 1 (x.l (.slice o2 x.bs.length c2)) (by rfl) rfl (blk_src B8 _ rfl) (x.one rfl) (by decide) (by have := HNB.out; unfold maxLen; omega) (by have := HNB.out; omega) ?_
  intro u9 w10 r9 g9 n9
  obtain ⟨uo, uc, rfl⟩ := r9.shape
  have HR9 := hid r9
  have HN9 := hid n9
  clear hHeld r9 n9
  refine hK.out _ _ ((PC2.out _ _ hacc g9).1) (fun hHeld => ?_)
  clear hK K
  try simp only [Act.put, List.setIfInBounds_toArray, List.set_cons_zero, List.set_cons_succ, List.getElem_toArray, List.getElem_cons_succ, List.getElem_cons_zero]
  refine wpAnyH_take (i := 14) (v := ?_) rfl (by kernel_rfl) (by kernel_rfl) (by kernel_rfl) (fun _ _ _ h => h) (Or.inl ⟨by rfl, ?_⟩) hHeld ?_
  rotate_left 1
  · (intro w hSw; (try dsimp only at hSw); go_simp <;> with_reducible rfl)
  try simp only [Act.put, List.setIfInBounds_toArray, List.set_cons_zero, List.set_cons_succ, List.getElem_toArray, List.getElem_cons_succ, List.getElem_cons_zero]
  have hvv := (PC2.out _ _ hacc g9).2
  have c9 : w10.cell? ⟨q, 37 + i, none⟩ = some (.slice sa NL sc) := by rw [← HSV.out]; exact hvv.cell (37 + i) (refA_lv (st : Int) fl lv la HI.out)
  have y9 : w10.frozen? ⟨q, 37 + i, none⟩ = false := hvv.free (37 + i)
  refine wpAnyH_ready (rs := [15]) (by kernel_rfl) (by simp) ?_
  refine AllReadyH.cons rfl (fun K hK => ?_) (AllReadyH.nil)
  skip
  clear hHeld
  go_simp
  refine hK.out _ _ ((PC2.out _ _ hacc g9).1.other (p := ⟨q, 37 + i, none⟩) HXN.out.2 (.slice uo (NL + 1) uc)) (fun hHeld => ?_)
  clear hK K c9 y9
  try simp only [Act.put, List.setIfInBounds_toArray, List.set_cons_zero, List.set_cons_succ, List.getElem_toArray, List.getElem_cons_succ, List.getElem_cons_zero]
  refine wpAnyH_done (by kernel_rfl) ?_ _
  clear hHeld
  have HBx := hid ((PC2.out _ _ hacc g9).1.other (p := ⟨q, 37 + i, none⟩) HXN.out.2 (.slice uo (NL + 1) uc))
  have HB12 : Hid (Blk (w10.setCell ⟨q, 37 + i, none⟩ (.slice uo (NL + 1) uc)) q (refA (st : Int) fl (set1 lv i (.slice uo (NL + 1) uc)) la) 92) := hid (hvv.set' (37 + i) _ (refA_setlv _ _ _ _ HI.out _))
  have fs : Fr (· = q) w10 (w10.setCell ⟨q, 37 + i, none⟩ (.slice uo (NL + 1) uc)) := (Fr.refl _ w10).set1 _ _
  have fT : Fr (fun b => b = q ∨ b ∈ footOf (lv i)) w9 (w10.setCell ⟨q, 37 + i, none⟩ (.slice uo (NL + 1) uc)) := ((hacc.mono (fun _ _ h => h.elim)).trans (g9.mono (fun b _ h => .inr (by rw [HSV.out]; exact h)))).trans (fs.mono (fun b _ h => .inl h))
  have hqlt : q < w9.heap.size := HG4.out.blk.lt
  have hgr : ∀ b, b ∈ footOf (.slice uo (NL + 1) uc) → b ∈ footOf (lv i) ∨ w9.heap.size ≤ b := fun b hb => by
    rcases HN9.out b hb with h | h
    · exact .inl (by rw [HSV.out]; exact h)
    · exact .inr (Nat.le_trans hacc.size h)
  have hqu : ¬ q ∈ footOf (.slice uo (NL + 1) uc) := fun hb => by
    rcases HN9.out q hb with h | h
    · exact HSN.out h
    · have := hacc.size; omega
  have hor := HR9.out.keep fs (fun b hb e => hqu (e ▸ hb))
  have hbyte : ∀ b, b ∈ footOf (.slice o2 x.bs.length c2) → ∃ cs, Blk w8 b cs 5 := fun b hb => row_type HRZ.out hb
  have fT8 : Fr (fun b => b = q ∨ b ∈ footOf (lv i)) w8 (w10.setCell ⟨q, 37 + i, none⟩ (.slice uo (NL + 1) uc)) := (g9.mono (fun b _ h => .inr (by rw [HSV.out]; exact h))).trans (fs.mono (fun b _ h => .inl h))
  have hrow8 : ∀ b, b ∈ footOf (lv i) → ∃ cs, Blk w8 b cs 46 := fun b hb => by
    rw [HSV.out] at hb
    exact (HOR.out.keep hacc (fun _ _ h => h)).type hb
  have hT8 : ∀ b, (∃ cs, Blk w8 b cs 5) → ¬ (b = q ∨ b ∈ footOf (lv i)) := fun b ⟨cs, k⟩ e => by
    rcases e with e | e
    · exact absurd ((e ▸ k : Blk w8 q cs 5).type (HG4.out.blk.keep hacc (fun h => h))) (by decide)
    · obtain ⟨ds, k'⟩ := hrow8 b e
      exact absurd (k.type k') (by decide)
  obtain ⟨_, hab, hle⟩ := HBV4.out
  have HIT : Hid (Its (w10.setCell ⟨q, 37 + i, none⟩ (.slice uo (NL + 1) uc)) (.slice uo (NL + 1) uc) (L i ++ [⟨x, .slice o2 x.bs.length c2⟩])) := hid (by
    refine ⟨by rw [List.flatMap_append, List.length_append, ← HNL.out]; simpa [It.l] using hor, fun y hy => ?_⟩
    rcases List.mem_append.1 hy with hy | hy
    · have k := ((HG4.out.row i HI.out).2 y hy).keep hacc (fun _ _ _ h => h)
      exact k.keep fT8 (fun b h0 hb => hT8 b (k.2 h0 b hb))
    · simp only [List.mem_singleton] at hy
      subst hy
      refine ⟨⟨(Vw.of_row HRZ.out).keep fT8 (fun b hb => hT8 b (hbyte b hb)), hab, hle⟩, fun _ b hb => ?_⟩
      obtain ⟨cs, k⟩ := hbyte b hb
      exact ⟨cs, k.keep fT8 (hT8 b ⟨cs, k⟩)⟩)
  have HRG : Hid (RG (w10.setCell ⟨q, 37 + i, none⟩ (.slice uo (NL + 1) uc)) q st fl (set1 lv i (.slice uo (NL + 1) uc)) (set1 L i (L i ++ [⟨x, .slice o2 x.bs.length c2⟩])) la) := hid (HG4.out.turn HI.out HBIT.out fT HB12.out HIT.out hgr)
  have HFT : Hid (Fr (fun b => b = q ∨ b ∈ footOf (lv i)) w (w10.setCell ⟨q, 37 + i, none⟩ (.slice uo (NL + 1) uc))) := hid ((HF4.out.mono (fun _ _ h => h.elim)).trans fT)
  have HGR := hid (fun b hb => (hgr b hb).imp id (fun h => Nat.le_trans HF4.out.size h))
  have HV2 : Hid (∀ b, b ∈ footOf (.slice o2 x.bs.length c2) → w.heap.size ≤ b) := hid (fun b hb => Nat.le_trans HF4.out.size (HA8.out b hb))
  clear fs fT hqlt hgr hqu hor hbyte fT8 hrow8 hT8 hab hle hvv hacc g9 B8 HB12 HIT
  go_upto_region 6 with (fail)
  generalize w10.setCell ⟨q, 37 + i, none⟩ (.slice uo (NL + 1) uc) = w12 at *
  generalize (.slice uo (NL + 1) uc : Value) = u at *
  have PB : Hid (∀ W, Fr (· = q) w12 W → W.cell? ⟨b, 0, none⟩ = some (.int .i64 x.k.s) ∧ W.cell? ⟨b, 1, none⟩ = some (.int .i64 x.k.r) ∧ W.cell? ⟨b, 2, none⟩ = some (.int .i64 x.k.p) ∧ W.cell? ⟨b, 3, none⟩ = some (.int .i64 x.k.q)) := hid (fun W f => by
    have a := HBx.out.keep f (fun e => HBQ.out e)
    exact ⟨a.cell 0 rfl, a.cell 1 rfl, a.cell 2 rfl, a.cell 3 rfl⟩)
  have g0 : Fr (· = q) w12 w12.drew := (Fr.refl _ _).drew
  have HFIT : Hid (1 + i * 4 + 4 ≤ 50) := hid (by have := HI.out; omega)
  go_wp2_with fail
  refine wp_region_held_drew (S := fun W => W.cell? ⟨b, 0, none⟩ = some (.int .i64 x.k.s) ∧ W.cell? ⟨b, 1, none⟩ = some (.int .i64 x.k.r) ∧ W.cell? ⟨b, 2, none⟩ = some (.int .i64 x.k.p) ∧ W.cell? ⟨b, 3, none⟩ = some (.int .i64 x.k.q)) (by kernel_rfl) (PB.out _ g0) (fun hHeld => ?_)
  refine wpAnyH_take (i := 0) (v := ?_) rfl (by kernel_rfl) (by kernel_rfl) (by kernel_rfl) (fun _ _ _ h => h) (Or.inl ⟨by rfl, ?_⟩) hHeld ?_
  rotate_left 1
  · (intro w hSw; (try dsimp only at hSw); go_simp <;> with_reducible rfl)
  try simp only [Act.put, List.setIfInBounds_toArray, List.set_cons_zero, List.set_cons_succ, List.getElem_toArray, List.getElem_cons_succ, List.getElem_cons_zero]
  refine wpAnyH_take (i := 1) (v := ?_) rfl (by kernel_rfl) (by kernel_rfl) (by kernel_rfl) (fun _ _ _ h => h) (Or.inl ⟨by rfl, ?_⟩) hHeld ?_
  rotate_left 1
  · (intro w hSw; (try dsimp only at hSw); go_simp <;> with_reducible rfl)
  try simp only [Act.put, List.setIfInBounds_toArray, List.set_cons_zero, List.set_cons_succ, List.getElem_toArray, List.getElem_cons_succ, List.getElem_cons_zero]
  refine wpAnyH_take (i := 2) (v := ?_) rfl (by kernel_rfl) (by kernel_rfl) (by kernel_rfl) (fun _ _ _ h => h) (Or.inl ⟨by rfl, ?_⟩) hHeld ?_
  rotate_left 1
  · (intro w hSw; (try dsimp only at hSw); go_simp <;> with_reducible rfl)
  try simp only [Act.put, List.setIfInBounds_toArray, List.set_cons_zero, List.set_cons_succ, List.getElem_toArray, List.getElem_cons_succ, List.getElem_cons_zero]
  refine wpAnyH_take (i := 3) (v := ?_) rfl (by kernel_rfl) (by kernel_rfl) (by kernel_rfl) (fun _ _ _ h => h) (Or.inl ⟨by rfl, ?_⟩) hHeld ?_
  rotate_left 1
  · (intro w hSw; (try dsimp only at hSw); go_simp <;> with_reducible rfl)
  try simp only [Act.put, List.setIfInBounds_toArray, List.set_cons_zero, List.set_cons_succ, List.getElem_toArray, List.getElem_cons_succ, List.getElem_cons_zero]
  refine wpAnyH_take (i := 4) (v := ?_) rfl (by kernel_rfl) (by kernel_rfl) (by kernel_rfl) (fun _ _ _ h => h) (Or.inl ⟨by rfl, ?_⟩) hHeld ?_
  rotate_left 1
  · (intro w hSw; (try dsimp only at hSw); go_simp <;> with_reducible rfl)
  try simp only [Act.put, List.setIfInBounds_toArray, List.set_cons_zero, List.set_cons_succ, List.getElem_toArray, List.getElem_cons_succ, List.getElem_cons_zero]
  refine wpAnyH_take (i := 5) (v := ?_) rfl (by kernel_rfl) (by kernel_rfl) (by kernel_rfl) (fun _ _ _ h => h) (Or.inl ⟨by rfl, ?_⟩) hHeld ?_
  rotate_left 1
  · (intro w hSw; (try dsimp only at hSw); go_simp <;> with_reducible rfl)
  try simp only [Act.put, List.setIfInBounds_toArray, List.set_cons_zero, List.set_cons_succ, List.getElem_toArray, List.getElem_cons_succ, List.getElem_cons_zero]
  refine wpAnyH_take (i := 6) (v := ?_) rfl (by kernel_rfl) (by kernel_rfl) (by kernel_rfl) (fun _ _ _ h => h) (Or.inl ⟨by rfl, ?_⟩) hHeld ?_
  rotate_left 1
  · (intro w hSw; (try dsimp only at hSw); go_simp <;> with_reducible rfl)
  try simp only [Act.put, List.setIfInBounds_toArray, List.set_cons_zero, List.set_cons_succ, List.getElem_toArray, List.getElem_cons_succ, List.getElem_cons_zero]
  refine wpAnyH_ready (rs := [7]) (by kernel_rfl) (by simp) ?_
  refine AllReadyH.cons rfl (fun K hK => ?_) (AllReadyH.nil)
  skip
  clear hHeld
  refine step_store_part (by rfl) 32 (.tmp 49) (.tmp 46) (by rfl) aggKey q (1 + i * 4) (by rfl) (HRG.out.blk.drew) (.agg #[.int .i64 x.k.s, .int .i64 x.k.r, .int .i64 x.k.p, .int .i64 x.k.q]) (by rfl) (by rfl) (one_key x.k) HFIT.out _ (refA_setfl _ _ _ _ HI.out x.k) ?_
  intro w7 B7 f7 _
  refine hK.out _ _ (PB.out _ (g0.trans f7)) (fun hHeld => ?_)
  clear hK K
  try simp only [Act.put, List.setIfInBounds_toArray, List.set_cons_zero, List.set_cons_succ, List.getElem_toArray, List.getElem_cons_succ, List.getElem_cons_zero]
  refine wpAnyH_done (by kernel_rfl) ?_ _
  clear hHeld
  go_wp2_with fail
  go_ret2
  exact ⟨u, _, rfl, HRG.out.num (g0.trans f7) B7, HFT.out.trans ((g0.trans f7).mono (fun b _ h => .inl h)), HGR.out, HV2.out⟩
end
end Go.Proofs.Ytfkffjjkmckpnaa
