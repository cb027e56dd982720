/-
  MERGES (ch 25): Change; calls of merges that are none. Conditions: fewer than 100000 items.
-/
import Derived.Test.YtfkffjjkmckpnaaMgB
namespace Go.Proofs.Ytfkffjjkmckpnaa
open Go.RowKit Go.ChangeShapes Go.WideShapes Go.Deep

set_option linter.unusedSimpArgs false
set_option maxRecDepth 100000
section
variable {w w' : World} {p q m : Nat} {F : Int → Option SM} {la : Ky}
theorem MG.move (h : MG w q m F la) (B : Blk w' p (mgA m la) 71) (f : Fr (· = p) w w') (hn : ∀ b, mfp q m F b → b ≠ p) : MG w' p m F la := by
  have k := h.keep f (fun b hb => hn b hb)
  exact ⟨B, k.map, k.ent, k.sep, k.dom⟩
end
def newA (st : Nat) (fl : Ky) : SP := fun i => if 0 ≤ i ∧ i < 9 ∧ st.testBit i.toNat = true then some (fl, []) else none
theorem abs_new (hs : Nat → Nat) (st : Nat) (fl : Ky) : abs (FN hs st fl 9) = newA st fl := by
  funext i
  unfold abs newA FN
  by_cases h : 0 ≤ i ∧ i < (9 : Nat) ∧ st.testBit i.toNat = true
  · rw [if_pos h, if_pos (by exact h)]; rfl
  · rw [if_neg h, if_neg (by exact h)]; rfl
theorem aggMerge : AggT Try.prog 71 5 := ⟨⟨_, Try.underlying71, rfl⟩, by kernel_rfl⟩
theorem one_merge (m : Nat) (k : Ky) : ∀ u ∈ (Value.agg (mgA m k)).cells.toList, u.oneCell' = true := by
  intro u hu
  simp [mgA, Value.cells] at hu
  rcases hu with rfl | rfl | rfl | rfl | rfl <;> rfl
section
variable {v : Value} {w : World}
theorem NoM.one (h : NoM w v) : v.oneCell' = true := by rcases h with rfl | ⟨p, rfl, _⟩ <;> rfl
theorem mark_no (n : Int) (k : Ky) (w : World) (h : NoM w v) : Calls Try.prog 14 #[v, .int .i64 n, k.agg] w fun e w' => e = .returned (.int .i64 1) ∧ Fr (fun _ => False) w w' := by
  have HST := hid (fun W (f : Fr (fun _ => False) w W) => stream_no v n k W (h.keep f))
  unfold Ky.agg at HST
  have HB := hid (Blk.new w #[.int .i64 k.s, .int .i64 k.r, .int .i64 k.p, .int .i64 k.q] 32)
  have HF := hid ((Fr.refl (fun _ => False) w).alloc (.cells #[.int .i64 k.s, .int .i64 k.r, .int .i64 k.p, .int .i64 k.q] 32))
  unfold Ky.agg
  clear h
  go_enter Try.func14, Try.ntmps14
  go_upto_region 1 with (fail)
  have g0 := HB.out.cell 0 rfl
  have g1 := HB.out.cell 1 rfl
  have g2 := HB.out.cell 2 rfl
  have g3 := HB.out.cell 3 rfl
  generalize (w.alloc (.cells #[.int .i64 k.s, .int .i64 k.r, .int .i64 k.p, .int .i64 k.q] 32)) = w1 at *
  generalize w.heap.size = kb at *
  go_wp2_with fail
  with_reducible refine (HST.out _ HF.out).mono ?_
  rintro e w2 ⟨rfl, f2⟩
  have HF2 := hid (HF.out.trans f2)
  clear g0 g1 g2 g3 f2 HST HB
  go_wp2_with fail
  refine wp_region_held_drew (S := fun _ => True) (by kernel_rfl) (trivial) (fun hHeld => ?_)
  refine wpAnyH_take (i := 0) (v := ?_) rfl (by kernel_rfl) (by kernel_rfl) (by kernel_rfl) (fun _ _ _ h => h) (Or.inl ⟨by rfl, ?_⟩) hHeld ?_
  rotate_left 1
  · (intro w hSw; (try dsimp only at hSw); go_simp <;> with_reducible rfl)
  try simp only [Act.put, List.setIfInBounds_toArray, List.set_cons_zero, List.set_cons_succ, List.getElem_toArray, List.getElem_cons_succ, List.getElem_cons_zero]
  refine wpAnyH_take (i := 1) (v := ?_) rfl (by kernel_rfl) (by kernel_rfl) (by kernel_rfl) (fun _ _ _ h => h) (Or.inl ⟨by rfl, ?_⟩) hHeld ?_
  rotate_left 1
  · (intro w hSw; (try dsimp only at hSw); go_simp <;> with_reducible rfl)
  try simp only [Act.put, List.setIfInBounds_toArray, List.set_cons_zero, List.set_cons_succ, List.getElem_toArray, List.getElem_cons_succ, List.getElem_cons_zero]
  refine wpAnyH_take (i := 2) (v := ?_) rfl (by kernel_rfl) (by kernel_rfl) (by kernel_rfl) (fun _ _ _ h => h) (Or.inl ⟨by rfl, ?_⟩) hHeld ?_
  rotate_left 1
  · (intro w hSw; (try dsimp only at hSw); go_simp <;> with_reducible rfl)
  try simp only [Act.put, List.setIfInBounds_toArray, List.set_cons_zero, List.set_cons_succ, List.getElem_toArray, List.getElem_cons_succ, List.getElem_cons_zero]
  refine wpAnyH_take (i := 3) (v := undef) rfl (by kernel_rfl) (by kernel_rfl) (by kernel_rfl) (fun _ _ _ h => h) (Or.inr ⟨by rfl, rfl⟩) hHeld ?_
  try simp only [Act.put, List.setIfInBounds_toArray, List.set_cons_zero, List.set_cons_succ, List.getElem_toArray, List.getElem_cons_succ, List.getElem_cons_zero]
  refine wpAnyH_take (i := 4) (v := undef) rfl (by kernel_rfl) (by kernel_rfl) (by kernel_rfl) (fun _ _ _ h => h) (Or.inr ⟨by rfl, rfl⟩) hHeld ?_
  try simp only [Act.put, List.setIfInBounds_toArray, List.set_cons_zero, List.set_cons_succ, List.getElem_toArray, List.getElem_cons_succ, List.getElem_cons_zero]
  refine wpAnyH_take (i := 5) (v := undef) rfl (by kernel_rfl) (by kernel_rfl) (by kernel_rfl) (fun _ _ _ h => h) (Or.inr ⟨by rfl, rfl⟩) hHeld ?_
  try simp only [Act.put, List.setIfInBounds_toArray, List.set_cons_zero, List.set_cons_succ, List.getElem_toArray, List.getElem_cons_succ, List.getElem_cons_zero]
  refine wpAnyH_take (i := 6) (v := undef) rfl (by kernel_rfl) (by kernel_rfl) (by kernel_rfl) (fun _ _ _ h => h) (Or.inr ⟨by rfl, rfl⟩) hHeld ?_
  try simp only [Act.put, List.setIfInBounds_toArray, List.set_cons_zero, List.set_cons_succ, List.getElem_toArray, List.getElem_cons_succ, List.getElem_cons_zero]
  refine wpAnyH_take (i := 7) (v := undef) rfl (by kernel_rfl) (by kernel_rfl) (by kernel_rfl) (fun _ _ _ h => h) (Or.inr ⟨by rfl, rfl⟩) hHeld ?_
  try simp only [Act.put, List.setIfInBounds_toArray, List.set_cons_zero, List.set_cons_succ, List.getElem_toArray, List.getElem_cons_succ, List.getElem_cons_zero]
  refine wpAnyH_take (i := 8) (v := undef) rfl (by kernel_rfl) (by kernel_rfl) (by kernel_rfl) (fun _ _ _ h => h) (Or.inr ⟨by rfl, rfl⟩) hHeld ?_
  try simp only [Act.put, List.setIfInBounds_toArray, List.set_cons_zero, List.set_cons_succ, List.getElem_toArray, List.getElem_cons_succ, List.getElem_cons_zero]
  refine wpAnyH_take (i := 9) (v := undef) rfl (by kernel_rfl) (by kernel_rfl) (by kernel_rfl) (fun _ _ _ h => h) (Or.inr ⟨by rfl, rfl⟩) hHeld ?_
  try simp only [Act.put, List.setIfInBounds_toArray, List.set_cons_zero, List.set_cons_succ, List.getElem_toArray, List.getElem_cons_succ, List.getElem_cons_zero]
  refine wpAnyH_take (i := 10) (v := ?_) rfl (by kernel_rfl) (by kernel_rfl) (by kernel_rfl) (fun _ _ _ h => h) (Or.inl ⟨by rfl, ?_⟩) hHeld ?_
  rotate_left 1
  · (intro w hSw; (try dsimp only at hSw); go_simp <;> with_reducible rfl)
  try simp only [Act.put, List.setIfInBounds_toArray, List.set_cons_zero, List.set_cons_succ, List.getElem_toArray, List.getElem_cons_succ, List.getElem_cons_zero]
  refine wpAnyH_done (by kernel_rfl) ?_ _
  clear hHeld
  go_wp2_with fail
  go_ret
  exact ⟨rfl, HF2.out.trans (Fr.refl _ _).drew⟩
theorem floor_no (n : Int) (w : World) (h : NoM w v) : Calls Try.prog 19 #[v, .int .i64 n] w fun e w' => e = .returned kz.agg ∧ Fr (fun _ => False) w w' := by
  have HN := hid (fun W (f : Fr (fun _ => False) w W) => none_no W (h.keep f))
  clear h
  go_enter Try.func19, Try.ntmps19
  go_wp2_with (refine wpList_new rfl 32 rfl #[.int .i64 0, .int .i64 0, .int .i64 0, .int .i64 0] zeroKey ?_)
  intro z w1 hz B1 f1 z1
  have HB1 := hid B1
  have HF1 := hid f1
  have HZ1 := hid hz
  clear B1 f1 hz z1
  go_wp2_with fail
  with_reducible refine (HN.out _ HF1.out).mono ?_
  rintro e w2 ⟨rfl, rfl⟩
  go_wp2_with (refine wpList_store_part rfl 32 _ _ rfl aggKey z 0 rfl HB1.out (.agg #[.int .i64 0, .int .i64 0, .int .i64 0, .int .i64 0]) rfl rfl (one_key kz) (by decide) #[.int .i64 0, .int .i64 0, .int .i64 0, .int .i64 0] rfl ?_)
  intro w2 B2 f2 z2
  have HF2 := hid (HF1.out.into f2 (by have := HZ1.out; omega))
  go_wp2_with fail
  exact bodyPost_ret (v := .agg #[.int .i64 0, .int .i64 0, .int .i64 0, .int .i64 0]) (results_cell1 rfl _ aggKey rfl B2 rfl) rfl ⟨rfl, HF2.out⟩
theorem bound_no (w : World) (h : NoM w v) : Calls Try.prog 12 #[v] w fun e w' => e = .returned kz.agg ∧ Fr (fun _ => False) w w' := by
  have HN := hid (fun W (f : Fr (fun _ => False) w W) => none_no W (h.keep f))
  clear h
  go_enter Try.func12, Try.ntmps12
  go_wp2_with (refine wpList_new rfl 32 rfl #[.int .i64 0, .int .i64 0, .int .i64 0, .int .i64 0] zeroKey ?_)
  intro z w1 hz B1 f1 z1
  have HB1 := hid B1
  have HF1 := hid f1
  have HZ1 := hid hz
  clear B1 f1 hz z1
  go_wp2_with fail
  with_reducible refine (HN.out _ HF1.out).mono ?_
  rintro e w2 ⟨rfl, rfl⟩
  go_wp2_with (refine wpList_store_part rfl 32 _ _ rfl aggKey z 0 rfl HB1.out (.agg #[.int .i64 0, .int .i64 0, .int .i64 0, .int .i64 0]) rfl rfl (one_key kz) (by decide) #[.int .i64 0, .int .i64 0, .int .i64 0, .int .i64 0] rfl ?_)
  intro w2 B2 f2 z2
  have HF2 := hid (HF1.out.into f2 (by have := HZ1.out; omega))
  go_wp2_with fail
  exact bodyPost_ret (v := .agg #[.int .i64 0, .int .i64 0, .int .i64 0, .int .i64 0]) (results_cell1 rfl _ aggKey rfl B2 rfl) rfl ⟨rfl, HF2.out⟩
theorem waiting_no (w : World) (h : NoM w v) : Calls Try.prog 21 #[v] w fun e w' => e = .returned (.tuple #[kz.agg, .bool false]) ∧ Fr (fun _ => False) w w' := by
  have HN := hid (fun W (f : Fr (fun _ => False) w W) => none_no W (h.keep f))
  clear h
  go_enter Try.func21, Try.ntmps21
  go_wp2_with (refine wpList_new rfl 32 rfl #[.int .i64 0, .int .i64 0, .int .i64 0, .int .i64 0] zeroKey ?_)
  intro z w1 hz B1 f1 z1
  have HB1 := hid B1
  have HF1 := hid f1
  have HZ1 := hid hz
  clear B1 f1 hz z1
  go_wp2_with fail
  with_reducible refine (HN.out _ HF1.out).mono ?_
  rintro e w2 ⟨rfl, rfl⟩
  go_wp2_with (refine wpList_store_part rfl 32 _ _ rfl aggKey z 0 rfl HB1.out (.agg #[.int .i64 0, .int .i64 0, .int .i64 0, .int .i64 0]) rfl rfl (one_key kz) (by decide) #[.int .i64 0, .int .i64 0, .int .i64 0, .int .i64 0] rfl ?_)
  intro w2 B2 f2 z2
  have HF2 := hid (HF1.out.into f2 (by have := HZ1.out; omega))
  go_wp2_with fail
  exact bodyPost_ret (v := .tuple #[.agg #[.int .i64 0, .int .i64 0, .int .i64 0, .int .i64 0], .bool false]) (results_cell_slot rfl _ aggKey rfl B2 rfl _ rfl) rfl ⟨rfl, HF2.out⟩
theorem change_no (st : Int) (fl : Ky) (w : World) (h : NoM w v) : Calls Try.prog 16 #[v, .int .i64 st, fl.agg] w fun e w' => e = .returned (.tuple #[.slice none 0 0, .int .i64 1]) ∧ Fr (fun _ => False) w w' := by
  have HN := hid (fun W (f : Fr (fun _ => False) w W) => none_no W (h.keep f))
  have HF := hid ((Fr.refl (fun _ => False) w).alloc (.cells #[.int .i64 fl.s, .int .i64 fl.r, .int .i64 fl.p, .int .i64 fl.q] 32))
  unfold Ky.agg
  clear h
  go_enter Try.func16, Try.ntmps16
  go_wp2_with fail
  with_reducible refine (HN.out _ HF.out).mono ?_
  rintro e w2 ⟨rfl, rfl⟩
  go_wp2_with fail
  go_ret2
  exact ⟨rfl, HF.out⟩
end
section
variable {w : World} {p m : Nat} {F : Int → Option SM} {la : Ky}
theorem change_bad1 (st : Int) (fl : Ky) (h : MG w p m F la) (hb : okS st = false ∨ fl.ok = false) : Calls Try.prog 16 #[.pointer (some ⟨p, 0, none⟩), .int .i64 st, fl.agg] w fun e w' => e = .returned (.tuple #[.slice none 0 0, .int .i64 2]) ∧ Fr (fun _ => False) w w' := by
  have HG := hid h
  have HNB := hid (fun W => new_bad st fl W hb)
  unfold Ky.agg at HNB ⊢
  clear h hb
  go_enter Try.func16, Try.ntmps16
  go_wp2_with (refine wpList_boxed rfl 32 _ rfl #[.int .i64 fl.s, .int .i64 fl.r, .int .i64 fl.p, .int .i64 fl.q] rfl ?_)
  intro c w1 hc B1 f1 z1
  have HB1 := hid B1
  have HF1 := hid f1
  have HG1 := hid (HG.out.keep0 f1)
  clear hc B1 f1 z1
  go_wp2_with fail
  with_reducible refine (none_mg HG1.out).mono ?_
  rintro e w2 ⟨rfl, rfl⟩
  go_wp2_with (refine wpList_load_part rfl 32 _ rfl aggKey c 0 rfl HB1.out #[.int .i64 fl.s, .int .i64 fl.r, .int .i64 fl.p, .int .i64 fl.q] rfl rfl ?_)
  with_reducible refine (HNB.out _).mono ?_
  rintro e w2 ⟨rfl, f2⟩
  have HF2 := hid (HF1.out.trans f2)
  clear f2
  go_wp2_with fail
  refine wp_region_held_drew (S := fun _ => True) (by kernel_rfl) (trivial) (fun hHeld => ?_)
  refine wpAnyH_take (i := 0) (v := ?_) rfl (by kernel_rfl) (by kernel_rfl) (by kernel_rfl) (fun _ _ _ h => h) (Or.inl ⟨by rfl, ?_⟩) hHeld ?_
  rotate_left 1
  · (intro w hSw; (try dsimp only at hSw); go_simp <;> with_reducible rfl)
  try simp only [Act.put, List.setIfInBounds_toArray, List.set_cons_zero, List.set_cons_succ, List.getElem_toArray, List.getElem_cons_succ, List.getElem_cons_zero]
  refine wpAnyH_take (i := 1) (v := ?_) rfl (by kernel_rfl) (by kernel_rfl) (by kernel_rfl) (fun _ _ _ h => h) (Or.inl ⟨by rfl, ?_⟩) hHeld ?_
  rotate_left 1
  · (intro w hSw; (try dsimp only at hSw); go_simp <;> with_reducible rfl)
  try simp only [Act.put, List.setIfInBounds_toArray, List.set_cons_zero, List.set_cons_succ, List.getElem_toArray, List.getElem_cons_succ, List.getElem_cons_zero]
  refine wpAnyH_take (i := 2) (v := ?_) rfl (by kernel_rfl) (by kernel_rfl) (by kernel_rfl) (fun _ _ _ h => h) (Or.inl ⟨by rfl, ?_⟩) hHeld ?_
  rotate_left 1
  · (intro w hSw; (try dsimp only at hSw); go_simp <;> with_reducible rfl)
  try simp only [Act.put, List.setIfInBounds_toArray, List.set_cons_zero, List.set_cons_succ, List.getElem_toArray, List.getElem_cons_succ, List.getElem_cons_zero]
  refine wpAnyH_take (i := 3) (v := undef) rfl (by kernel_rfl) (by kernel_rfl) (by kernel_rfl) (fun _ _ _ h => h) (Or.inr ⟨by rfl, rfl⟩) hHeld ?_
  try simp only [Act.put, List.setIfInBounds_toArray, List.set_cons_zero, List.set_cons_succ, List.getElem_toArray, List.getElem_cons_succ, List.getElem_cons_zero]
  refine wpAnyH_take (i := 4) (v := undef) rfl (by kernel_rfl) (by kernel_rfl) (by kernel_rfl) (fun _ _ _ h => h) (Or.inr ⟨by rfl, rfl⟩) hHeld ?_
  try simp only [Act.put, List.setIfInBounds_toArray, List.set_cons_zero, List.set_cons_succ, List.getElem_toArray, List.getElem_cons_succ, List.getElem_cons_zero]
  refine wpAnyH_take (i := 5) (v := undef) rfl (by kernel_rfl) (by kernel_rfl) (by kernel_rfl) (fun _ _ _ h => h) (Or.inr ⟨by rfl, rfl⟩) hHeld ?_
  try simp only [Act.put, List.setIfInBounds_toArray, List.set_cons_zero, List.set_cons_succ, List.getElem_toArray, List.getElem_cons_succ, List.getElem_cons_zero]
  refine wpAnyH_take (i := 6) (v := undef) rfl (by kernel_rfl) (by kernel_rfl) (by kernel_rfl) (fun _ _ _ h => h) (Or.inr ⟨by rfl, rfl⟩) hHeld ?_
  try simp only [Act.put, List.setIfInBounds_toArray, List.set_cons_zero, List.set_cons_succ, List.getElem_toArray, List.getElem_cons_succ, List.getElem_cons_zero]
  refine wpAnyH_take (i := 7) (v := undef) rfl (by kernel_rfl) (by kernel_rfl) (by kernel_rfl) (fun _ _ _ h => h) (Or.inr ⟨by rfl, rfl⟩) hHeld ?_
  try simp only [Act.put, List.setIfInBounds_toArray, List.set_cons_zero, List.set_cons_succ, List.getElem_toArray, List.getElem_cons_succ, List.getElem_cons_zero]
  refine wpAnyH_take (i := 8) (v := undef) rfl (by kernel_rfl) (by kernel_rfl) (by kernel_rfl) (fun _ _ _ h => h) (Or.inr ⟨by rfl, rfl⟩) hHeld ?_
  try simp only [Act.put, List.setIfInBounds_toArray, List.set_cons_zero, List.set_cons_succ, List.getElem_toArray, List.getElem_cons_succ, List.getElem_cons_zero]
  refine wpAnyH_take (i := 9) (v := undef) rfl (by kernel_rfl) (by kernel_rfl) (by kernel_rfl) (fun _ _ _ h => h) (Or.inr ⟨by rfl, rfl⟩) hHeld ?_
  try simp only [Act.put, List.setIfInBounds_toArray, List.set_cons_zero, List.set_cons_succ, List.getElem_toArray, List.getElem_cons_succ, List.getElem_cons_zero]
  refine wpAnyH_take (i := 10) (v := ?_) rfl (by kernel_rfl) (by kernel_rfl) (by kernel_rfl) (fun _ _ _ h => h) (Or.inl ⟨by rfl, ?_⟩) hHeld ?_
  rotate_left 1
  · (intro w hSw; (try dsimp only at hSw); go_simp <;> with_reducible rfl)
  try simp only [Act.put, List.setIfInBounds_toArray, List.set_cons_zero, List.set_cons_succ, List.getElem_toArray, List.getElem_cons_succ, List.getElem_cons_zero]
  refine wpAnyH_done (by kernel_rfl) ?_ _
  clear hHeld
  go_wp2_with fail
  go_ret2
  exact ⟨rfl, HF2.out.trans (Fr.refl _ _).drew⟩
/-- What Change answers. -/
def ChP (w : World) (p : Nat) (F : Int → Option SM) (la fl : Ky) (st : Nat) (e : Ending) (w' : World) : Prop :=
    (kc fl la < 0 ∧ e = .returned (.tuple #[.slice none 0 0, .int .i64 2]) ∧ Fr (fun _ => False) w w') ∨
    (¬ kc fl la < 0 ∧ ∃ v' S' la' out i m2 F2, e = .returned (.tuple #[v', .int .i64 0]) ∧ itS (mayC fl) i ⟨abs F, la, []⟩ = ⟨S', la', out.map (·.x)⟩ ∧ nextS (mayC fl) ⟨S', la', out.map (·.x)⟩ = none ∧ MG w' p m2 F2 fl ∧ abs F2 = newA st fl ∧ (∀ b, mfp p m2 F2 b → b = p ∨ w.heap.size ≤ b) ∧ Its w' v' out ∧ (∀ b, b ∈ footOf v' → w.heap.size ≤ b) ∧ (∀ b, b ∈ footOf v' → ¬ mfp p m2 F2 b) ∧ (∀ x ∈ out, ∃ k s, F k = some s ∧ x ∈ s.L) ∧ Fr (tellW p F) w w')
set_option maxHeartbeats 1000000 in
theorem change_mid (st : Nat) (fl : Ky) (h : MG w p m F la) (h5 : st ≤ 511) (h1 : st % 2 = 1) (hk : fl.ok = true) (hcnt : cntS (abs F) < 100000) : Calls Try.prog 16 #[.pointer (some ⟨p, 0, none⟩), .int .i64 (st : Int), fl.agg] w (ChP w p F la fl st) := by
  have HG := hid h
  have HCN := hid hcnt
  have HNB := hid (fun W => new_ok st fl W h5 h1 hk)
  have HKC := hid (fun W => keys_any fl.s fl.r fl.p fl.q la.s la.r la.p la.q W)
  rw [show kcmp fl.s fl.r fl.p fl.q la.s la.r la.p la.q = kc fl la from rfl] at HKC
  obtain ⟨C, hC⟩ : ∃ C, kc fl la = C := ⟨_, rfl⟩
  rw [hC] at HKC
  have HCE := hid hC
  obtain ⟨sti, hsti⟩ : ∃ sti : Int, sti = (st : Int) := ⟨_, rfl⟩
  rw [← hsti] at HNB ⊢
  have HST := hid hsti
  unfold Ky.agg at HNB ⊢
  clear h hcnt h5 h1 hk hC hsti
  go_enter Try.func16, Try.ntmps16
  go_wp2_with (refine wpList_boxed rfl 32 _ rfl #[.int .i64 fl.s, .int .i64 fl.r, .int .i64 fl.p, .int .i64 fl.q] rfl ?_)
  intro c w1 hc B1 f1 z1
  have HB1 := hid B1
  have HF1 := hid f1
  have HCW := hid hc
  have HG1 := hid (HG.out.keep0 f1)
  clear hc B1 f1 z1
  go_wp2_with fail
  with_reducible refine (none_mg HG1.out).mono ?_
  rintro e w2 ⟨rfl, rfl⟩
  go_wp2_with (refine wpList_load_part rfl 32 _ rfl aggKey c 0 rfl HB1.out #[.int .i64 fl.s, .int .i64 fl.r, .int .i64 fl.p, .int .i64 fl.q] rfl rfl ?_)
  with_reducible refine (HNB.out _).mono ?_
  rintro e w2 ⟨q, m2, hs, rfl, g2, gf2, f2⟩
  have HF2 := hid (HF1.out.trans f2)
  have HB2 := hid (HB1.out.keep f2 (fun h => h))
  have HG2 := hid (HG1.out.keep0 f2)
  have HN2 := hid g2
  have HNF := hid (fun b hb => Nat.le_trans HF1.out.size (gf2 b hb))
  have HNC : Hid (∀ b, mfp q m2 (FN hs st fl 9) b → c < b) := hid (fun b hb => by have h1 := gf2 b hb; have h2 := HB1.out.lt; omega)
  clear f2 g2 gf2 HNB
  have PS : Hid (∀ W, Fr (fun _ => False) w2 W → W.cell? ⟨c, 0, none⟩ = some (.int .i64 fl.s) ∧ W.cell? ⟨c, 1, none⟩ = some (.int .i64 fl.r) ∧ W.cell? ⟨c, 2, none⟩ = some (.int .i64 fl.p) ∧ W.cell? ⟨c, 3, none⟩ = some (.int .i64 fl.q) ∧ W.cell? ⟨p, 1, none⟩ = some (.int .i64 la.s) ∧ W.cell? ⟨p, 2, none⟩ = some (.int .i64 la.r) ∧ W.cell? ⟨p, 3, none⟩ = some (.int .i64 la.p) ∧ W.cell? ⟨p, 4, none⟩ = some (.int .i64 la.q)) := hid (fun W f => by
    have a := HB2.out.keep f (fun h => h)
    have b := HG2.out.blk.keep f (fun h => h)
    exact ⟨a.cell 0 rfl, a.cell 1 rfl, a.cell 2 rfl, a.cell 3 rfl, b.cell 1 rfl, b.cell 2 rfl, b.cell 3 rfl, b.cell 4 rfl⟩)
  by_cases hC : C < 0
  · have d1 : decide (C < 0) = true := decide_eq_true hC
    have HCH := hid hC
    clear hC
    go_wp2_with fail
    refine wp_region_held_drew (S := fun W => W.cell? ⟨c, 0, none⟩ = some (.int .i64 fl.s) ∧ W.cell? ⟨c, 1, none⟩ = some (.int .i64 fl.r) ∧ W.cell? ⟨c, 2, none⟩ = some (.int .i64 fl.p) ∧ W.cell? ⟨c, 3, none⟩ = some (.int .i64 fl.q) ∧ W.cell? ⟨p, 1, none⟩ = some (.int .i64 la.s) ∧ W.cell? ⟨p, 2, none⟩ = some (.int .i64 la.r) ∧ W.cell? ⟨p, 3, none⟩ = some (.int .i64 la.p) ∧ W.cell? ⟨p, 4, none⟩ = some (.int .i64 la.q)) (by kernel_rfl) (PS.out _ (Fr.refl _ _).drew) (fun hHeld => ?_)
    refine wpAnyH_take (i := 0) (v := ?_) rfl (by kernel_rfl) (by kernel_rfl) (by kernel_rfl) (fun _ _ _ h => h) (Or.inl ⟨by rfl, ?_⟩) hHeld ?_
    rotate_left 1
    · (intro w hSw; (try dsimp only at hSw); go_simp <;> with_reducible rfl)
    try simp only [Act.put, List.setIfInBounds_toArray, List.set_cons_zero, List.set_cons_succ, List.getElem_toArray, List.getElem_cons_succ, List.getElem_cons_zero]
    refine wpAnyH_take (i := 1) (v := ?_) rfl (by kernel_rfl) (by kernel_rfl) (by kernel_rfl) (fun _ _ _ h => h) (Or.inl ⟨by rfl, ?_⟩) hHeld ?_
    rotate_left 1
    · (intro w hSw; (try dsimp only at hSw); go_simp <;> with_reducible rfl)
    try simp only [Act.put, List.setIfInBounds_toArray, List.set_cons_zero, List.set_cons_succ, List.getElem_toArray, List.getElem_cons_succ, List.getElem_cons_zero]
    refine wpAnyH_take (i := 2) (v := ?_) rfl (by kernel_rfl) (by kernel_rfl) (by kernel_rfl) (fun _ _ _ h => h) (Or.inl ⟨by rfl, ?_⟩) hHeld ?_
    rotate_left 1
    · (intro w hSw; (try dsimp only at hSw); go_simp <;> with_reducible rfl)
    try simp only [Act.put, List.setIfInBounds_toArray, List.set_cons_zero, List.set_cons_succ, List.getElem_toArray, List.getElem_cons_succ, List.getElem_cons_zero]
    refine wpAnyH_take (i := 3) (v := ?_) rfl (by kernel_rfl) (by kernel_rfl) (by kernel_rfl) (fun _ _ _ h => h) (Or.inl ⟨by rfl, ?_⟩) hHeld ?_
    rotate_left 1
    · (intro w hSw; (try dsimp only at hSw); go_simp <;> with_reducible rfl)
    try simp only [Act.put, List.setIfInBounds_toArray, List.set_cons_zero, List.set_cons_succ, List.getElem_toArray, List.getElem_cons_succ, List.getElem_cons_zero]
    refine wpAnyH_take (i := 4) (v := ?_) rfl (by kernel_rfl) (by kernel_rfl) (by kernel_rfl) (fun _ _ _ h => h) (Or.inl ⟨by rfl, ?_⟩) hHeld ?_
    rotate_left 1
    · (intro w hSw; (try dsimp only at hSw); go_simp <;> with_reducible rfl)
    try simp only [Act.put, List.setIfInBounds_toArray, List.set_cons_zero, List.set_cons_succ, List.getElem_toArray, List.getElem_cons_succ, List.getElem_cons_zero]
    refine wpAnyH_take (i := 5) (v := ?_) rfl (by kernel_rfl) (by kernel_rfl) (by kernel_rfl) (fun _ _ _ h => h) (Or.inl ⟨by rfl, ?_⟩) hHeld ?_
    rotate_left 1
    · (intro w hSw; (try dsimp only at hSw); go_simp <;> with_reducible rfl)
    try simp only [Act.put, List.setIfInBounds_toArray, List.set_cons_zero, List.set_cons_succ, List.getElem_toArray, List.getElem_cons_succ, List.getElem_cons_zero]
    refine wpAnyH_take (i := 6) (v := ?_) rfl (by kernel_rfl) (by kernel_rfl) (by kernel_rfl) (fun _ _ _ h => h) (Or.inl ⟨by rfl, ?_⟩) hHeld ?_
    rotate_left 1
    · (intro w hSw; (try dsimp only at hSw); go_simp <;> with_reducible rfl)
    try simp only [Act.put, List.setIfInBounds_toArray, List.set_cons_zero, List.set_cons_succ, List.getElem_toArray, List.getElem_cons_succ, List.getElem_cons_zero]
    refine wpAnyH_take (i := 7) (v := ?_) rfl (by kernel_rfl) (by kernel_rfl) (by kernel_rfl) (fun _ _ _ h => h) (Or.inl ⟨by rfl, ?_⟩) hHeld ?_
    rotate_left 1
    · (intro w hSw; (try dsimp only at hSw); go_simp <;> with_reducible rfl)
    try simp only [Act.put, List.setIfInBounds_toArray, List.set_cons_zero, List.set_cons_succ, List.getElem_toArray, List.getElem_cons_succ, List.getElem_cons_zero]
    refine wpAnyH_ready (rs := [8]) (by kernel_rfl) (by simp) ?_
    refine AllReadyH.cons rfl (fun K hK => ?_) AllReadyH.nil
    clear hHeld
    go_simp
    go_at_call 17
    refine (HKC.out _).mono ?_
    rintro e w3 ⟨rfl, hacc⟩
    refine hK.out _ _ (PS.out _ ((Fr.refl _ _).drew.trans hacc)) (fun hHeld => ?_)
    clear hK K
    try simp only [Act.put, List.setIfInBounds_toArray, List.set_cons_zero, List.set_cons_succ, List.getElem_toArray, List.getElem_cons_succ, List.getElem_cons_zero]
    have HF3 := hid ((Fr.refl (fun _ => False) w2).drew.trans hacc)
    clear hacc
    refine wpAnyH_take (i := 9) (v := ?_) rfl (by kernel_rfl) (by kernel_rfl) (by kernel_rfl) (fun _ _ _ h => h) (Or.inl ⟨by rfl, ?_⟩) hHeld ?_
    rotate_left 1
    · (intro w hSw; (try dsimp only at hSw); go_simp <;> with_reducible rfl)
    try simp only [Act.put, List.setIfInBounds_toArray, List.set_cons_zero, List.set_cons_succ, List.getElem_toArray, List.getElem_cons_succ, List.getElem_cons_zero]
    refine wpAnyH_take (i := 10) (v := ?_) rfl (by kernel_rfl) (by kernel_rfl) (by kernel_rfl) (fun _ _ _ h => h) (Or.inl ⟨by rfl, ?_⟩) hHeld ?_
    rotate_left 1
    · (intro w hSw; (try dsimp only at hSw); go_simp <;> with_reducible rfl)
    try simp only [Act.put, List.setIfInBounds_toArray, List.set_cons_zero, List.set_cons_succ, List.getElem_toArray, List.getElem_cons_succ, List.getElem_cons_zero]
    refine wpAnyH_done (by kernel_rfl) ?_ _
    clear hHeld
    go_wp2_with fail
    go_ret2
    exact .inl ⟨by rw [HCE.out]; exact HCH.out, rfl, HF2.out.trans HF3.out⟩
  · have d1 : decide (C < 0) = false := decide_eq_false hC
    have HNC0 := hid hC
    clear hC
    go_wp2_with fail
    refine wp_region_held_drew (S := fun W => W.cell? ⟨c, 0, none⟩ = some (.int .i64 fl.s) ∧ W.cell? ⟨c, 1, none⟩ = some (.int .i64 fl.r) ∧ W.cell? ⟨c, 2, none⟩ = some (.int .i64 fl.p) ∧ W.cell? ⟨c, 3, none⟩ = some (.int .i64 fl.q) ∧ W.cell? ⟨p, 1, none⟩ = some (.int .i64 la.s) ∧ W.cell? ⟨p, 2, none⟩ = some (.int .i64 la.r) ∧ W.cell? ⟨p, 3, none⟩ = some (.int .i64 la.p) ∧ W.cell? ⟨p, 4, none⟩ = some (.int .i64 la.q)) (by kernel_rfl) (PS.out _ (Fr.refl _ _).drew) (fun hHeld => ?_)
    refine wpAnyH_take (i := 0) (v := ?_) rfl (by kernel_rfl) (by kernel_rfl) (by kernel_rfl) (fun _ _ _ h => h) (Or.inl ⟨by rfl, ?_⟩) hHeld ?_
    rotate_left 1
    · (intro w hSw; (try dsimp only at hSw); go_simp <;> with_reducible rfl)
    try simp only [Act.put, List.setIfInBounds_toArray, List.set_cons_zero, List.set_cons_succ, List.getElem_toArray, List.getElem_cons_succ, List.getElem_cons_zero]
    refine wpAnyH_take (i := 1) (v := ?_) rfl (by kernel_rfl) (by kernel_rfl) (by kernel_rfl) (fun _ _ _ h => h) (Or.inl ⟨by rfl, ?_⟩) hHeld ?_
    rotate_left 1
    · (intro w hSw; (try dsimp only at hSw); go_simp <;> with_reducible rfl)
    try simp only [Act.put, List.setIfInBounds_toArray, List.set_cons_zero, List.set_cons_succ, List.getElem_toArray, List.getElem_cons_succ, List.getElem_cons_zero]
    refine wpAnyH_take (i := 2) (v := ?_) rfl (by kernel_rfl) (by kernel_rfl) (by kernel_rfl) (fun _ _ _ h => h) (Or.inl ⟨by rfl, ?_⟩) hHeld ?_
    rotate_left 1
    · (intro w hSw; (try dsimp only at hSw); go_simp <;> with_reducible rfl)
    try simp only [Act.put, List.setIfInBounds_toArray, List.set_cons_zero, List.set_cons_succ, List.getElem_toArray, List.getElem_cons_succ, List.getElem_cons_zero]
    refine wpAnyH_take (i := 3) (v := ?_) rfl (by kernel_rfl) (by kernel_rfl) (by kernel_rfl) (fun _ _ _ h => h) (Or.inl ⟨by rfl, ?_⟩) hHeld ?_
    rotate_left 1
    · (intro w hSw; (try dsimp only at hSw); go_simp <;> with_reducible rfl)
    try simp only [Act.put, List.setIfInBounds_toArray, List.set_cons_zero, List.set_cons_succ, List.getElem_toArray, List.getElem_cons_succ, List.getElem_cons_zero]
    refine wpAnyH_take (i := 4) (v := ?_) rfl (by kernel_rfl) (by kernel_rfl) (by kernel_rfl) (fun _ _ _ h => h) (Or.inl ⟨by rfl, ?_⟩) hHeld ?_
    rotate_left 1
    · (intro w hSw; (try dsimp only at hSw); go_simp <;> with_reducible rfl)
    try simp only [Act.put, List.setIfInBounds_toArray, List.set_cons_zero, List.set_cons_succ, List.getElem_toArray, List.getElem_cons_succ, List.getElem_cons_zero]
    refine wpAnyH_take (i := 5) (v := ?_) rfl (by kernel_rfl) (by kernel_rfl) (by kernel_rfl) (fun _ _ _ h => h) (Or.inl ⟨by rfl, ?_⟩) hHeld ?_
    rotate_left 1
    · (intro w hSw; (try dsimp only at hSw); go_simp <;> with_reducible rfl)
    try simp only [Act.put, List.setIfInBounds_toArray, List.set_cons_zero, List.set_cons_succ, List.getElem_toArray, List.getElem_cons_succ, List.getElem_cons_zero]
    refine wpAnyH_take (i := 6) (v := ?_) rfl (by kernel_rfl) (by kernel_rfl) (by kernel_rfl) (fun _ _ _ h => h) (Or.inl ⟨by rfl, ?_⟩) hHeld ?_
    rotate_left 1
    · (intro w hSw; (try dsimp only at hSw); go_simp <;> with_reducible rfl)
    try simp only [Act.put, List.setIfInBounds_toArray, List.set_cons_zero, List.set_cons_succ, List.getElem_toArray, List.getElem_cons_succ, List.getElem_cons_zero]
    refine wpAnyH_take (i := 7) (v := ?_) rfl (by kernel_rfl) (by kernel_rfl) (by kernel_rfl) (fun _ _ _ h => h) (Or.inl ⟨by rfl, ?_⟩) hHeld ?_
    rotate_left 1
    · (intro w hSw; (try dsimp only at hSw); go_simp <;> with_reducible rfl)
    try simp only [Act.put, List.setIfInBounds_toArray, List.set_cons_zero, List.set_cons_succ, List.getElem_toArray, List.getElem_cons_succ, List.getElem_cons_zero]
    refine wpAnyH_ready (rs := [8]) (by kernel_rfl) (by simp) ?_
    refine AllReadyH.cons rfl (fun K hK => ?_) AllReadyH.nil
    clear hHeld
    go_simp
    go_at_call 17
    refine (HKC.out _).mono ?_
    rintro e w3 ⟨rfl, hacc⟩
    refine hK.out _ _ (PS.out _ ((Fr.refl _ _).drew.trans hacc)) (fun hHeld => ?_)
    clear hK K
    try simp only [Act.put, List.setIfInBounds_toArray, List.set_cons_zero, List.set_cons_succ, List.getElem_toArray, List.getElem_cons_succ, List.getElem_cons_zero]
    have HF3 := hid ((Fr.refl (fun _ => False) w2).drew.trans hacc)
    clear hacc
    refine wpAnyH_take (i := 9) (v := ?_) rfl (by kernel_rfl) (by kernel_rfl) (by kernel_rfl) (fun _ _ _ h => h) (Or.inl ⟨by rfl, ?_⟩) hHeld ?_
    rotate_left 1
    · (intro w hSw; (try dsimp only at hSw); go_simp <;> with_reducible rfl)
    try simp only [Act.put, List.setIfInBounds_toArray, List.set_cons_zero, List.set_cons_succ, List.getElem_toArray, List.getElem_cons_succ, List.getElem_cons_zero]
    refine wpAnyH_take (i := 10) (v := ?_) rfl (by kernel_rfl) (by kernel_rfl) (by kernel_rfl) (fun _ _ _ h => h) (Or.inl ⟨by rfl, ?_⟩) hHeld ?_
    rotate_left 1
    · (intro w hSw; (try dsimp only at hSw); go_simp <;> with_reducible rfl)
    try simp only [Act.put, List.setIfInBounds_toArray, List.set_cons_zero, List.set_cons_succ, List.getElem_toArray, List.getElem_cons_succ, List.getElem_cons_zero]
    refine wpAnyH_done (by kernel_rfl) ?_ _
    clear hHeld
    have HG3 := hid (HG2.out.keep0 HF3.out)
    have HB3 := hid (HB2.out.keep HF3.out (fun h => h))
    have HN3 := hid (HN2.out.keep0 HF3.out)
    have HF03 := hid (HF2.out.trans HF3.out)
    have HTW : Hid (∀ b, tellW p F b → b < w.heap.size) := hid (fun b e => HG.out.live b (by
      rcases e with e | ⟨k, s, hs, e⟩
      · exact .inl e
      · exact .inr (.inr ⟨k, s, hs, .inl e⟩)))
    have HCT : Hid (¬ tellW p F c) := hid (fun e => by have h1 := HTW.out c e; have h2 := HCW.out; omega)
    have HCM : ∀ W F' la', Fr (tellW p F) w3 W → MG W p m F' la' → ∀ k : Ky, Calls Try.prog 34 #[k.agg, .pointer (some ⟨c, 0, none⟩)] W fun e w' => e = .returned (.bool (mayC fl (abs F') k)) ∧ Fr (fun _ => False) W w' := fun W F' la' f g k => change1_mg k fl c (HB3.out.keep f HCT.out)
    have HCMH := hid HCM
    clear PS HF3 HF2 HCM
    go_wp2_with fail
    with_reducible refine (tell_mg (mayC fl) 34 (.pointer (some ⟨c, 0, none⟩)) (fun _ _ => by kernel_rfl) HG3.out HCN.out HCMH.out).mono ?_
    rintro e w4 ⟨v', F', la', out, i, rfl, r1, r2, r3, r4, r5, r6, r7, r8⟩
    have HR1 := hid r1
    have HR2 := hid r2
    have HR4 := hid r4
    have HR5 := hid r5
    have HR6 := hid r6
    have HR7 := hid r7
    have HG4 := hid r3
    have HF4 := hid (r8)
    have hwb : ∀ b, w.heap.size ≤ b → ¬ tellW p F b := fun b hb e => by have h1 := HTW.out b e; omega
    have HN4 := hid (HN3.out.keep r8 (fun b hb => hwb b (HNF.out b hb)))
    have HV4 : Hid (∀ b, b ∈ footOf v' → ¬ mfp q m2 (FN hs st fl 9) b) := hid (fun b hb hm => by have h1 := HN3.out.live b hm; have h2 := r6 b hb; omega)
    obtain ⟨vo, vn, vc, hv⟩ : ∃ vo vn vc, v' = .slice vo vn vc := by obtain ⟨a, b, h⟩ := r5.1.shape; exact ⟨a, _, b, h⟩
    subst hv
    clear r1 r2 r3 r4 r5 r6 r7 r8 hwb
    go_wp2_with (first | (refine wpList_load_part rfl 71 _ rfl aggMerge q 0 rfl HN4.out.blk (mgA m2 fl) rfl rfl ?_) | (refine wpList_store_part rfl 71 _ _ rfl aggMerge p 0 rfl HG4.out.blk (.agg (mgA m2 fl)) rfl rfl (one_merge m2 fl) (by show 0 + 5 ≤ 5; decide) (mgA m2 fl) rfl ?_))
    intro w5 B5 f5 z5
    have HT5 : Hid (∀ {b : Nat} {cs : Array Value} {t' : TypeId}, Blk w4 b cs t' → t' ≠ 71 → ¬ b = p) := hid (fun k h2 e => h2 ((e ▸ k).type HG4.out.blk))
    have hpl : p < w.heap.size := HG.out.live p (.inl rfl)
    have HG5 := hid (HN4.out.move B5 f5 (fun b hb e => by have h1 := HNF.out b hb; omega))
    have HI5 := hid (HR5.out.keep f5 (fun b hb => by obtain ⟨cs, k⟩ := HR5.out.1.type hb; exact HT5.out k (by decide)) (fun b hb => by obtain ⟨cs, k⟩ := HR5.out.body hb; exact HT5.out k (by decide)))
    have HF5 := hid ((((HF03.out.mono (fun _ _ h => h.elim)).trans HF4.out : Fr (tellW p F) w w4).trans (f5.mono (fun b _ e => .inl e)) : Fr (tellW p F) w w5))
    have HFP : Hid (∀ b, mfp p m2 (FN hs st fl 9) b → b = p ∨ mfp q m2 (FN hs st fl 9) b) := hid (fun b hb => hb.imp id .inr)
    clear B5 f5 z5
    go_wp2_with fail
    go_ret2
    exact .inr ⟨by rw [HCE.out]; have := HNC0.out; omega, _, _, la', out, i, m2, _, rfl, HR1.out, HR2.out, HG5.out, abs_new _ _ _, fun b hb => (HFP.out b hb).imp id (HNF.out b), HI5.out, fun b hb => by have h1 := HR6.out b hb; have h2 := HF03.out.size; omega, fun b hb hm => by
      rcases HFP.out b hm with rfl | hm
      · have h1 := HR6.out b hb; have h2 := HF03.out.size; omega
      · exact HV4.out b hb hm, HR7.out, HF5.out⟩
end
end Go.Proofs.Ytfkffjjkmckpnaa
