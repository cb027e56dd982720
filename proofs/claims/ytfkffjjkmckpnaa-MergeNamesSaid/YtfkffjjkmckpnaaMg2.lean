/-
  MERGES (ch 25): none, stream, Mark, Floor. Conditions: none.
-/
import Derived.Test.YtfkffjjkmckpnaaMg1
import Derived.Deep.RegionHeld
import Derived.OrdersHeld
namespace Go.Proofs.Ytfkffjjkmckpnaa
open Go.RowKit Go.ChangeShapes Go.WideShapes Go.Deep

set_option linter.unusedSimpArgs false
set_option maxRecDepth 100000
theorem zeroSt (W : World) : (zeroValue 74).run Try.prog W = .ok (.pointer none) W := by kernel_rfl
section
variable {α : Type} [DecidableEq α] {P : Program} {ops : Array Oper} {o : Oper} {f : Act} {S : World → Prop} {w : World} {Q : Exit → Act → World → Prop} {rest : List Oper}
theorem yields_lookup1 (hgd : Region.wanted o (yielded ops f.tmps) = true) (m x : Operand) (t : TypeId) (hop : o.op = Op.lookup t m x false) {kt e : TypeId} {κ : α → Value} (K : KeyOk P kt κ) (ht : P.underlying t = some (.map kt e)) {z : Value} (hz : ∀ W, (zeroValue e).run P W = .ok z W) {b : Nat} {M : List (α × Value)}
    (hS : ∀ W, S W → MapIs W b κ M) (a : α) (hm : f.eval m = .map (some b)) (hx : f.eval x = κ a) (u : Value) (hu : (look M a).getD z = u) : YieldsIf P ops S o u f :=
  .inl ⟨hgd, fun w hw => by
    have hrun := run_lookup_map K ht (hz w) (hS w hw) a false
    rw [← hu]
    simp [execOp, hop, hm, hx, hrun, Result.andThen]⟩
end
theorem map_eq0 (w : World) : (binOp .eql 69 (.map none) (.map none)).run Try.prog w = .ok (.bool true) w := by kernel_rfl
theorem map_eq1 (m : Nat) (w : World) : (binOp .eql 69 (.map (some m)) (.map none)).run Try.prog w = .ok (.bool false) w := by kernel_rfl
/-- A pointer to a merge that is none. -/
def NoM (w : World) (v : Value) : Prop := v = .pointer none ∨ ∃ p, v = .pointer (some ⟨p, 0, none⟩) ∧ w.cell? ⟨p, 0, none⟩ = some (.map none)
theorem NoM.keep {w w' : World} {v : Value} (h : NoM w v) (f : Fr (fun _ => False) w w') : NoM w' v := by
  rcases h with h | ⟨p, h, hc⟩
  · exact .inl h
  · exact .inr ⟨p, h, cell_fr f hc⟩
theorem none_no {v : Value} (w : World) (h : NoM w v) : Calls Try.prog 27 #[v] w fun e w' => e = .returned (.bool true) ∧ w = w' := by
  have hme := map_eq0
  rcases h with rfl | ⟨p, rfl, hc⟩
  · go_enter Try.func27, Try.ntmps27
    go_wp2_with fail
    go_ret
    exact ⟨rfl, rfl⟩
  · go_enter Try.func27, Try.ntmps27
    go_wp2_with fail
    go_ret
    exact ⟨rfl, rfl⟩
section
variable {w : World} {p m : Nat} {F : Int → Option SM} {la : Ky}
theorem MG.c0 (h : MG w p m F la) : w.cell? ⟨p, 0, none⟩ = some (.map (some m)) := h.blk.cell 0 rfl
theorem none_mg (h : MG w p m F la) : Calls Try.prog 27 #[.pointer (some ⟨p, 0, none⟩)] w fun e w' => e = .returned (.bool false) ∧ w = w' := by
  have hc := h.c0
  have hme := map_eq1 m
  clear h
  go_enter Try.func27, Try.ntmps27
  go_wp2_with fail
  go_ret
  exact ⟨rfl, rfl⟩
theorem stream_no (v : Value) (n : Int) (k : Ky) (w : World) (h : NoM w v) : Calls Try.prog 30 #[v, .int .i64 n, k.agg] w fun e w' => e = .returned (.tuple #[.pointer none, .int .i64 1]) ∧ Fr (fun _ => False) w w' := by
  have HN := hid (fun W (f : Fr (fun _ => False) w W) => none_no W (h.keep f))
  have HF := hid ((Fr.refl (fun _ => False) w).alloc (.cells #[.int .i64 k.s, .int .i64 k.r, .int .i64 k.p, .int .i64 k.q] 32))
  unfold Ky.agg
  clear h
  go_enter Try.func30, Try.ntmps30
  go_wp2_with fail
  with_reducible refine (HN.out _ HF.out).mono ?_
  rintro e w1 ⟨rfl, rfl⟩
  go_wp2_with fail
  go_ret2
  exact ⟨rfl, HF.out⟩
theorem stream_bad (n : Int) (k : Ky) (h : MG w p m F la) (hb : F n = none ∨ k.ok = false) : Calls Try.prog 30 #[.pointer (some ⟨p, 0, none⟩), .int .i64 n, k.agg] w fun e w' => e = .returned (.tuple #[.pointer none, .int .i64 2]) ∧ Fr (fun _ => False) w w' := by
  have HF := hid ((Fr.refl (fun _ => False) w).alloc (.cells #[.int .i64 k.s, .int .i64 k.r, .int .i64 k.p, .int .i64 k.q] 32))
  have HB := hid (Blk.new w #[.int .i64 k.s, .int .i64 k.r, .int .i64 k.p, .int .i64 k.q] 32)
  have HG := hid (h.keep0 HF.out)
  have HN := hid (none_mg HG.out)
  obtain ⟨M, hM, hL⟩ := HG.out.map
  have HM := hid hM
  have HL := hid (hL.1 n)
  have hc := HG.out.c0
  have HCK := hid (fun W => check_any k.s k.r k.p k.q W)
  unfold Ky.agg
  by_cases hn : F n = none
  · rw [hn] at HL
    have HLN : Hid (look M n = none) := hid HL.out
    clear h hb hM hL hn HL HG HB HCK
    go_enter Try.func30, Try.ntmps30
    go_wp2_with fail
    generalize (w.alloc (.cells #[.int .i64 k.s, .int .i64 k.r, .int .i64 k.p, .int .i64 k.q] 32)) = w1 at *
    with_reducible refine HN.out.mono ?_
    rintro e w2 ⟨rfl, rfl⟩
    go_wp2_with (refine wpList_lookup_no rfl _ _ 69 rfl (int_keyOk Try.underlying3) Try.underlying69 (zeroSt w1) HM.out n rfl rfl HLN.out ?_)
    go_ret2
    exact ⟨rfl, HF.out⟩
  · obtain ⟨s, hs⟩ : ∃ s, F n = some s := by
      cases h : F n with
      | none => exact absurd h hn
      | some s => exact ⟨s, rfl⟩
    have hk : k.ok = false := hb.resolve_left hn
    rw [hs] at HL
    have HLN : Hid (look M n = some (.pointer (some ⟨s.h, 0, none⟩))) := hid HL.out
    rw [show okKey k.s k.r k.p k.q = false from hk] at HCK
    have g0 := HB.out.cell 0 rfl
    have g1 := HB.out.cell 1 rfl
    have g2 := HB.out.cell 2 rfl
    have g3 := HB.out.cell 3 rfl
    clear h hb hM hL hn HL HG HB hs hk
    go_enter Try.func30, Try.ntmps30
    go_wp2_with fail
    generalize (w.alloc (.cells #[.int .i64 k.s, .int .i64 k.r, .int .i64 k.p, .int .i64 k.q] 32)) = w1 at *
    generalize w.heap.size = kb at *
    with_reducible refine HN.out.mono ?_
    rintro e w2 ⟨rfl, rfl⟩
    go_wp2_with (refine wpList_lookup_yes rfl _ _ 69 rfl (int_keyOk Try.underlying3) Try.underlying69 (zeroSt w1) HM.out n rfl rfl _ HLN.out ?_)
    with_reducible refine (HCK.out w1).mono ?_
    rintro e w2 ⟨rfl, f2⟩
    have HF2 := hid (HF.out.trans f2)
    clear g0 g1 g2 g3 f2
    go_wp2_with fail
    go_ret2
    exact ⟨rfl, HF2.out⟩
theorem stream_ok (n : Int) (k : Ky) (s : SM) (h : MG w p m F la) (hs : F n = some s) (hk : k.ok = true) : Calls Try.prog 30 #[.pointer (some ⟨p, 0, none⟩), .int .i64 n, k.agg] w fun e w' => e = .returned (.tuple #[.pointer (some ⟨s.h, 0, none⟩), .int .i64 0]) ∧ Fr (fun _ => False) w w' := by
  have HF := hid ((Fr.refl (fun _ => False) w).alloc (.cells #[.int .i64 k.s, .int .i64 k.r, .int .i64 k.p, .int .i64 k.q] 32))
  have HB := hid (Blk.new w #[.int .i64 k.s, .int .i64 k.r, .int .i64 k.p, .int .i64 k.q] 32)
  have HG := hid (h.keep0 HF.out)
  have HN := hid (none_mg HG.out)
  obtain ⟨M, hM, hL⟩ := HG.out.map
  have HM := hid hM
  have HL := hid (hL.1 n)
  have hc := HG.out.c0
  have HCK := hid (fun W => check_any k.s k.r k.p k.q W)
  unfold Ky.agg
  rw [hs] at HL
  have HLN : Hid (look M n = some (.pointer (some ⟨s.h, 0, none⟩))) := hid HL.out
  rw [show okKey k.s k.r k.p k.q = true from hk] at HCK
  have g0 := HB.out.cell 0 rfl
  have g1 := HB.out.cell 1 rfl
  have g2 := HB.out.cell 2 rfl
  have g3 := HB.out.cell 3 rfl
  clear h hM hL HL HG HB hs hk
  go_enter Try.func30, Try.ntmps30
  go_wp2_with fail
  generalize (w.alloc (.cells #[.int .i64 k.s, .int .i64 k.r, .int .i64 k.p, .int .i64 k.q] 32)) = w1 at *
  generalize w.heap.size = kb at *
  with_reducible refine HN.out.mono ?_
  rintro e w2 ⟨rfl, rfl⟩
  go_wp2_with (refine wpList_lookup_yes rfl _ _ 69 rfl (int_keyOk Try.underlying3) Try.underlying69 (zeroSt w1) HM.out n rfl rfl _ HLN.out ?_)
  with_reducible refine (HCK.out w1).mono ?_
  rintro e w2 ⟨rfl, f2⟩
  have HF2 := hid (HF.out.trans f2)
  clear g0 g1 g2 g3 f2
  go_wp2_with fail
  go_ret2
  exact ⟨rfl, HF2.out⟩
theorem same_at {n : Int} {s : SM} (h : F n = some s) : (fun i => if i = n then some s else F i) = F := by
  funext i
  by_cases hi : i = n
  · subst hi; simp [h]
  · simp [hi]
theorem aggKey : AggT Try.prog 32 4 := ⟨⟨_, Try.underlying32, rfl⟩, by kernel_rfl⟩
theorem one_key (k : Ky) : ∀ u ∈ (Value.agg #[.int .i64 k.s, .int .i64 k.r, .int .i64 k.p, .int .i64 k.q]).cells.toList, u.oneCell' = true := by
  intro u hu
  simp [Value.cells] at hu
  rcases hu with rfl | rfl | rfl | rfl <;> rfl
/-- A floor turns. -/
theorem MG.floor {w' : World} (h : MG w p m F la) {n : Int} {s : SM} (hs : F n = some s) (k : Ky) (f : Fr (· = s.h) w w') (B : Blk w' s.h (SM.a { s with fl := k }) 76) : MG w' p m (fun i => if i = n then some { s with fl := k } else F i) la := by
  obtain ⟨e1, e2⟩ := h.ent n s hs
  refine h.turn hs rfl (f.mono (fun b _ hb => .inl hb)) B (e2.keep f (fun b hb e => ?_) (fun b hb e => ?_)) (fun b hb => .inl hb)
  · obtain ⟨ds, k'⟩ := e2.1.type hb
    exact absurd ((e ▸ k').type e1) (by decide)
  · obtain ⟨ds, k'⟩ := e2.body hb
    exact absurd ((e ▸ k').type e1) (by decide)
/-- What Mark makes of a stream. -/
def markS (s : SM) (k : Ky) : SM := if 0 < kc k s.fl then { s with fl := k } else s
theorem mark_bad (n : Int) (k : Ky) (h : MG w p m F la) (hb : F n = none ∨ k.ok = false) : Calls Try.prog 14 #[.pointer (some ⟨p, 0, none⟩), .int .i64 n, k.agg] w fun e w' => e = .returned (.int .i64 2) ∧ Fr (fun _ => False) w w' := by
  have HF := hid ((Fr.refl (fun _ => False) w).alloc (.cells #[.int .i64 k.s, .int .i64 k.r, .int .i64 k.p, .int .i64 k.q] 32))
  have HB := hid (Blk.new w #[.int .i64 k.s, .int .i64 k.r, .int .i64 k.p, .int .i64 k.q] 32)
  have HS := hid (stream_bad n k (h.keep0 HF.out) hb)
  have g0 := HB.out.cell 0 rfl
  have g1 := HB.out.cell 1 rfl
  have g2 := HB.out.cell 2 rfl
  have g3 := HB.out.cell 3 rfl
  unfold Ky.agg at *
  clear h hb HB
  go_enter Try.func14, Try.ntmps14
  go_wp2_with fail
  generalize (w.alloc (.cells #[.int .i64 k.s, .int .i64 k.r, .int .i64 k.p, .int .i64 k.q] 32)) = w1 at *
  generalize w.heap.size = kb at *
  with_reducible refine HS.out.mono ?_
  rintro e w2 ⟨rfl, f2⟩
  have HF2 := hid (HF.out.trans f2)
  clear g0 g1 g2 g3 f2 HS
  go_wp2_with fail
  refine wp_region_held_drew (S := fun _ => True) (by kernel_rfl) (trivial) (fun hHeld => ?_)
  refine wpAnyH_take (i := 0) (v := ?_) rfl (by kernel_rfl) (by kernel_rfl) (by kernel_rfl) (fun _ _ _ h => h) (Or.inl ⟨by rfl, ?_⟩) hHeld ?_
  rotate_left 1
  · (intro w hSw; (try dsimp only at hSw); go_simp <;> with_reducible rfl)
  try simp only [Act.put, List.setIfInBounds_toArray, List.set_cons_zero, List.set_cons_succ, List.getElem_toArray, List.getElem_cons_succ, List.getElem_cons_zero]
  refine wpAnyH_take (i := 1) (v := ?_) rfl (by kernel_rfl) (by kernel_rfl) (by kernel_rfl) (fun _ _ _ h => h) (Or.inl ⟨by rfl, ?_⟩) hHeld ?_
  rotate_left 1
  · (intro w hSw; (try dsimp only at hSw); go_simp <;> with_reducible rfl)
  try simp only [Act.put, List.setIfInBounds_toArray, List.set_cons_zero, List.set_cons_succ, List.getElem_toArray, List.getElem_cons_succ, List.getElem_cons_zero]
  refine wpAnyH_take (i := 2) (v := ?_) rfl (by kernel_rfl) (by kernel_rfl) (by kernel_rfl) (fun _ _ _ h => h) (Or.inl ⟨by rfl, ?_⟩) hHeld ?_
  rotate_left 1
  · (intro w hSw; (try dsimp only at hSw); go_simp <;> with_reducible rfl)
  try simp only [Act.put, List.setIfInBounds_toArray, List.set_cons_zero, List.set_cons_succ, List.getElem_toArray, List.getElem_cons_succ, List.getElem_cons_zero]
  refine wpAnyH_take (i := 3) (v := undef) rfl (by kernel_rfl) (by kernel_rfl) (by kernel_rfl) (fun _ _ _ h => h) (Or.inr ⟨by rfl, rfl⟩) hHeld ?_
  try simp only [Act.put, List.setIfInBounds_toArray, List.set_cons_zero, List.set_cons_succ, List.getElem_toArray, List.getElem_cons_succ, List.getElem_cons_zero]
  refine wpAnyH_take (i := 4) (v := undef) rfl (by kernel_rfl) (by kernel_rfl) (by kernel_rfl) (fun _ _ _ h => h) (Or.inr ⟨by rfl, rfl⟩) hHeld ?_
  try simp only [Act.put, List.setIfInBounds_toArray, List.set_cons_zero, List.set_cons_succ, List.getElem_toArray, List.getElem_cons_succ, List.getElem_cons_zero]
  refine wpAnyH_take (i := 5) (v := undef) rfl (by kernel_rfl) (by kernel_rfl) (by kernel_rfl) (fun _ _ _ h => h) (Or.inr ⟨by rfl, rfl⟩) hHeld ?_
  try simp only [Act.put, List.setIfInBounds_toArray, List.set_cons_zero, List.set_cons_succ, List.getElem_toArray, List.getElem_cons_succ, List.getElem_cons_zero]
  refine wpAnyH_take (i := 6) (v := undef) rfl (by kernel_rfl) (by kernel_rfl) (by kernel_rfl) (fun _ _ _ h => h) (Or.inr ⟨by rfl, rfl⟩) hHeld ?_
  try simp only [Act.put, List.setIfInBounds_toArray, List.set_cons_zero, List.set_cons_succ, List.getElem_toArray, List.getElem_cons_succ, List.getElem_cons_zero]
  refine wpAnyH_take (i := 7) (v := undef) rfl (by kernel_rfl) (by kernel_rfl) (by kernel_rfl) (fun _ _ _ h => h) (Or.inr ⟨by rfl, rfl⟩) hHeld ?_
  try simp only [Act.put, List.setIfInBounds_toArray, List.set_cons_zero, List.set_cons_succ, List.getElem_toArray, List.getElem_cons_succ, List.getElem_cons_zero]
  refine wpAnyH_take (i := 8) (v := undef) rfl (by kernel_rfl) (by kernel_rfl) (by kernel_rfl) (fun _ _ _ h => h) (Or.inr ⟨by rfl, rfl⟩) hHeld ?_
  try simp only [Act.put, List.setIfInBounds_toArray, List.set_cons_zero, List.set_cons_succ, List.getElem_toArray, List.getElem_cons_succ, List.getElem_cons_zero]
  refine wpAnyH_take (i := 9) (v := undef) rfl (by kernel_rfl) (by kernel_rfl) (by kernel_rfl) (fun _ _ _ h => h) (Or.inr ⟨by rfl, rfl⟩) hHeld ?_
  try simp only [Act.put, List.setIfInBounds_toArray, List.set_cons_zero, List.set_cons_succ, List.getElem_toArray, List.getElem_cons_succ, List.getElem_cons_zero]
  refine wpAnyH_take (i := 10) (v := ?_) rfl (by kernel_rfl) (by kernel_rfl) (by kernel_rfl) (fun _ _ _ h => h) (Or.inl ⟨by rfl, ?_⟩) hHeld ?_
  rotate_left 1
  · (intro w hSw; (try dsimp only at hSw); go_simp <;> with_reducible rfl)
  try simp only [Act.put, List.setIfInBounds_toArray, List.set_cons_zero, List.set_cons_succ, List.getElem_toArray, List.getElem_cons_succ, List.getElem_cons_zero]
  refine wpAnyH_done (by kernel_rfl) ?_ _
  clear hHeld
  go_wp2_with fail
  go_ret
  exact ⟨rfl, HF2.out.trans (Fr.refl _ _).drew⟩
theorem mark_ok (n : Int) (k : Ky) (s : SM) (h : MG w p m F la) (hs : F n = some s) (hk : k.ok = true) : Calls Try.prog 14 #[.pointer (some ⟨p, 0, none⟩), .int .i64 n, k.agg] w fun e w' => e = .returned (.int .i64 0) ∧ MG w' p m (fun i => if i = n then some (markS s k) else F i) la ∧ Fr (· = s.h) w w' := by
  have HF := hid ((Fr.refl (fun _ => False) w).alloc (.cells #[.int .i64 k.s, .int .i64 k.r, .int .i64 k.p, .int .i64 k.q] 32))
  have HB := hid (Blk.new w #[.int .i64 k.s, .int .i64 k.r, .int .i64 k.p, .int .i64 k.q] 32)
  have HG := hid (h.keep0 HF.out)
  have HS := hid (stream_ok n k s HG.out hs hk)
  have g0 := HB.out.cell 0 rfl
  have g1 := HB.out.cell 1 rfl
  have g2 := HB.out.cell 2 rfl
  have g3 := HB.out.cell 3 rfl
  have HSF := hid hs
  have hsl := (h.ent n s hs).1.lt
  have HNE : Hid (¬ w.heap.size = s.h) := hid (by omega)
  have HKC := hid (fun W => keys_any k.s k.r k.p k.q s.fl.s s.fl.r s.fl.p s.fl.q W)
  have HKD : Hid (kc k s.fl = kcmp k.s k.r k.p k.q s.fl.s s.fl.r s.fl.p s.fl.q) := hid rfl
  unfold Ky.agg at *
  clear h hk hs hsl
  go_enter Try.func14, Try.ntmps14
  go_wp2_with fail
  generalize (w.alloc (.cells #[.int .i64 k.s, .int .i64 k.r, .int .i64 k.p, .int .i64 k.q] 32)) = w1 at *
  generalize w.heap.size = kb at *
  with_reducible refine HS.out.mono ?_
  rintro e w2 ⟨rfl, f2⟩
  have HF2 := hid (HF.out.trans f2)
  have HG2 := hid (HG.out.keep0 f2)
  have HB2 := hid (HB.out.keep f2 (fun h => h))
  clear g0 g1 g2 g3 f2 HS HG HB HF
  have PS : Hid (∀ W, Fr (fun _ => False) w2 W → W.cell? ⟨kb, 0, none⟩ = some (.int .i64 k.s) ∧ W.cell? ⟨kb, 1, none⟩ = some (.int .i64 k.r) ∧ W.cell? ⟨kb, 2, none⟩ = some (.int .i64 k.p) ∧ W.cell? ⟨kb, 3, none⟩ = some (.int .i64 k.q) ∧ W.cell? ⟨s.h, 0, none⟩ = some (.int .i64 s.fl.s) ∧ W.cell? ⟨s.h, 1, none⟩ = some (.int .i64 s.fl.r) ∧ W.cell? ⟨s.h, 2, none⟩ = some (.int .i64 s.fl.p) ∧ W.cell? ⟨s.h, 3, none⟩ = some (.int .i64 s.fl.q)) := hid (fun W f => by
    have b := HB2.out.keep f (fun h => h)
    have e := ((HG2.out.keep0 f).ent n s HSF.out).1
    exact ⟨b.cell 0 rfl, b.cell 1 rfl, b.cell 2 rfl, b.cell 3 rfl, e.cell 0 rfl, e.cell 1 rfl, e.cell 2 rfl, e.cell 3 rfl⟩)
  rw [← HKD.out] at HKC
  have HMS : Hid (markS s k = if 0 < kc k s.fl then { s with fl := k } else s) := hid rfl
  generalize kc k s.fl = C at *
  clear HKD
  by_cases hC : 0 < C
  · have d1 : decide (0 < C) = true := decide_eq_true hC
    have HMS2 := hid (HMS.out.trans (if_pos hC))
    clear HMS hC
    go_wp2_with fail
    refine wp_region_held_drew (S := fun W => W.cell? ⟨kb, 0, none⟩ = some (.int .i64 k.s) ∧ W.cell? ⟨kb, 1, none⟩ = some (.int .i64 k.r) ∧ W.cell? ⟨kb, 2, none⟩ = some (.int .i64 k.p) ∧ W.cell? ⟨kb, 3, none⟩ = some (.int .i64 k.q) ∧ W.cell? ⟨s.h, 0, none⟩ = some (.int .i64 s.fl.s) ∧ W.cell? ⟨s.h, 1, none⟩ = some (.int .i64 s.fl.r) ∧ W.cell? ⟨s.h, 2, none⟩ = some (.int .i64 s.fl.p) ∧ W.cell? ⟨s.h, 3, none⟩ = some (.int .i64 s.fl.q)) (by kernel_rfl) (PS.out _ (Fr.refl _ _).drew) (fun hHeld => ?_)
    refine wpAnyH_take (i := 0) (v := ?_) rfl (by kernel_rfl) (by kernel_rfl) (by kernel_rfl) (fun _ _ _ h => h) (Or.inl ⟨by rfl, ?_⟩) hHeld ?_
    rotate_left 1
    · (intro w hSw; (try dsimp only at hSw); go_simp <;> with_reducible rfl)
    try simp only [Act.put, List.setIfInBounds_toArray, List.set_cons_zero, List.set_cons_succ, List.getElem_toArray, List.getElem_cons_succ, List.getElem_cons_zero]
    refine wpAnyH_take (i := 1) (v := ?_) rfl (by kernel_rfl) (by kernel_rfl) (by kernel_rfl) (fun _ _ _ h => h) (Or.inl ⟨by rfl, ?_⟩) hHeld ?_
    rotate_left 1
    · (intro w hSw; (try dsimp only at hSw); go_simp <;> with_reducible rfl)
    try simp only [Act.put, List.setIfInBounds_toArray, List.set_cons_zero, List.set_cons_succ, List.getElem_toArray, List.getElem_cons_succ, List.getElem_cons_zero]
    refine wpAnyH_take (i := 2) (v := ?_) rfl (by kernel_rfl) (by kernel_rfl) (by kernel_rfl) (fun _ _ _ h => h) (Or.inl ⟨by rfl, ?_⟩) hHeld ?_
    rotate_left 1
    · (intro w hSw; (try dsimp only at hSw); go_simp <;> with_reducible rfl)
    try simp only [Act.put, List.setIfInBounds_toArray, List.set_cons_zero, List.set_cons_succ, List.getElem_toArray, List.getElem_cons_succ, List.getElem_cons_zero]
    refine wpAnyH_take (i := 3) (v := ?_) rfl (by kernel_rfl) (by kernel_rfl) (by kernel_rfl) (fun _ _ _ h => h) (Or.inl ⟨by rfl, ?_⟩) hHeld ?_
    rotate_left 1
    · (intro w hSw; (try dsimp only at hSw); go_simp <;> with_reducible rfl)
    try simp only [Act.put, List.setIfInBounds_toArray, List.set_cons_zero, List.set_cons_succ, List.getElem_toArray, List.getElem_cons_succ, List.getElem_cons_zero]
    refine wpAnyH_take (i := 4) (v := ?_) rfl (by kernel_rfl) (by kernel_rfl) (by kernel_rfl) (fun _ _ _ h => h) (Or.inl ⟨by rfl, ?_⟩) hHeld ?_
    rotate_left 1
    · (intro w hSw; (try dsimp only at hSw); go_simp <;> with_reducible rfl)
    try simp only [Act.put, List.setIfInBounds_toArray, List.set_cons_zero, List.set_cons_succ, List.getElem_toArray, List.getElem_cons_succ, List.getElem_cons_zero]
    refine wpAnyH_take (i := 5) (v := ?_) rfl (by kernel_rfl) (by kernel_rfl) (by kernel_rfl) (fun _ _ _ h => h) (Or.inl ⟨by rfl, ?_⟩) hHeld ?_
    rotate_left 1
    · (intro w hSw; (try dsimp only at hSw); go_simp <;> with_reducible rfl)
    try simp only [Act.put, List.setIfInBounds_toArray, List.set_cons_zero, List.set_cons_succ, List.getElem_toArray, List.getElem_cons_succ, List.getElem_cons_zero]
    refine wpAnyH_take (i := 6) (v := ?_) rfl (by kernel_rfl) (by kernel_rfl) (by kernel_rfl) (fun _ _ _ h => h) (Or.inl ⟨by rfl, ?_⟩) hHeld ?_
    rotate_left 1
    · (intro w hSw; (try dsimp only at hSw); go_simp <;> with_reducible rfl)
    try simp only [Act.put, List.setIfInBounds_toArray, List.set_cons_zero, List.set_cons_succ, List.getElem_toArray, List.getElem_cons_succ, List.getElem_cons_zero]
    refine wpAnyH_take (i := 7) (v := ?_) rfl (by kernel_rfl) (by kernel_rfl) (by kernel_rfl) (fun _ _ _ h => h) (Or.inl ⟨by rfl, ?_⟩) hHeld ?_
    rotate_left 1
    · (intro w hSw; (try dsimp only at hSw); go_simp <;> with_reducible rfl)
    try simp only [Act.put, List.setIfInBounds_toArray, List.set_cons_zero, List.set_cons_succ, List.getElem_toArray, List.getElem_cons_succ, List.getElem_cons_zero]
    refine wpAnyH_ready (rs := [8]) (by kernel_rfl) (by simp) ?_
    refine AllReadyH.cons rfl (fun K hK => ?_) AllReadyH.nil
    clear hHeld
    go_simp
    go_at_call 17
    refine (HKC.out _).mono ?_
    rintro e w3 ⟨rfl, hacc⟩
    refine hK.out _ _ (PS.out _ ((Fr.refl _ _).drew.trans hacc)) (fun hHeld => ?_)
    clear hK K
    try simp only [Act.put, List.setIfInBounds_toArray, List.set_cons_zero, List.set_cons_succ, List.getElem_toArray, List.getElem_cons_succ, List.getElem_cons_zero]
    have HF3 := hid ((Fr.refl (fun _ => False) w2).drew.trans hacc)
    clear hacc
    refine wpAnyH_take (i := 9) (v := ?_) rfl (by kernel_rfl) (by kernel_rfl) (by kernel_rfl) (fun _ _ _ h => h) (Or.inl ⟨by rfl, ?_⟩) hHeld ?_
    rotate_left 1
    · (intro w hSw; (try dsimp only at hSw); go_simp <;> with_reducible rfl)
    try simp only [Act.put, List.setIfInBounds_toArray, List.set_cons_zero, List.set_cons_succ, List.getElem_toArray, List.getElem_cons_succ, List.getElem_cons_zero]
    refine wpAnyH_take (i := 10) (v := ?_) rfl (by kernel_rfl) (by kernel_rfl) (by kernel_rfl) (fun _ _ _ h => h) (Or.inl ⟨by rfl, ?_⟩) hHeld ?_
    rotate_left 1
    · (intro w hSw; (try dsimp only at hSw); go_simp <;> with_reducible rfl)
    try simp only [Act.put, List.setIfInBounds_toArray, List.set_cons_zero, List.set_cons_succ, List.getElem_toArray, List.getElem_cons_succ, List.getElem_cons_zero]
    refine wpAnyH_done (by kernel_rfl) ?_ _
    clear hHeld
    have HG3 := hid (HG2.out.keep0 HF3.out)
    have HB3 := hid (HB2.out.keep HF3.out (fun h => h))
    have g0 := HB3.out.cell 0 rfl
    have g1 := HB3.out.cell 1 rfl
    have g2 := HB3.out.cell 2 rfl
    have g3 := HB3.out.cell 3 rfl
    have B3 := (HG3.out.ent n s HSF.out).1
    clear HG2 HB2 PS HKC
    go_wp2_with (refine wpList_store_part rfl 32 _ _ rfl aggKey s.h 0 rfl B3 (.agg #[.int .i64 k.s, .int .i64 k.r, .int .i64 k.p, .int .i64 k.q]) rfl rfl (one_key k) (by show 0 + 4 ≤ 5; decide) (SM.a { s with fl := k }) rfl ?_)
    intro w4 B4 f4 z4
    clear g0 g1 g2 g3
    go_wp2_with fail
    go_ret
    refine ⟨rfl, ?_, (Fr.mono (HF2.out.trans HF3.out) (fun _ _ h => h.elim)).trans f4⟩
    rw [HMS2.out]
    exact HG3.out.floor HSF.out k f4 B4
  · have d1 : decide (0 < C) = false := decide_eq_false hC
    have HMS2 := hid (HMS.out.trans (if_neg hC))
    clear HMS hC
    go_wp2_with fail
    refine wp_region_held_drew (S := fun W => W.cell? ⟨kb, 0, none⟩ = some (.int .i64 k.s) ∧ W.cell? ⟨kb, 1, none⟩ = some (.int .i64 k.r) ∧ W.cell? ⟨kb, 2, none⟩ = some (.int .i64 k.p) ∧ W.cell? ⟨kb, 3, none⟩ = some (.int .i64 k.q) ∧ W.cell? ⟨s.h, 0, none⟩ = some (.int .i64 s.fl.s) ∧ W.cell? ⟨s.h, 1, none⟩ = some (.int .i64 s.fl.r) ∧ W.cell? ⟨s.h, 2, none⟩ = some (.int .i64 s.fl.p) ∧ W.cell? ⟨s.h, 3, none⟩ = some (.int .i64 s.fl.q)) (by kernel_rfl) (PS.out _ (Fr.refl _ _).drew) (fun hHeld => ?_)
    refine wpAnyH_take (i := 0) (v := ?_) rfl (by kernel_rfl) (by kernel_rfl) (by kernel_rfl) (fun _ _ _ h => h) (Or.inl ⟨by rfl, ?_⟩) hHeld ?_
    rotate_left 1
    · (intro w hSw; (try dsimp only at hSw); go_simp <;> with_reducible rfl)
    try simp only [Act.put, List.setIfInBounds_toArray, List.set_cons_zero, List.set_cons_succ, List.getElem_toArray, List.getElem_cons_succ, List.getElem_cons_zero]
    refine wpAnyH_take (i := 1) (v := ?_) rfl (by kernel_rfl) (by kernel_rfl) (by kernel_rfl) (fun _ _ _ h => h) (Or.inl ⟨by rfl, ?_⟩) hHeld ?_
    rotate_left 1
    · (intro w hSw; (try dsimp only at hSw); go_simp <;> with_reducible rfl)
    try simp only [Act.put, List.setIfInBounds_toArray, List.set_cons_zero, List.set_cons_succ, List.getElem_toArray, List.getElem_cons_succ, List.getElem_cons_zero]
    refine wpAnyH_take (i := 2) (v := ?_) rfl (by kernel_rfl) (by kernel_rfl) (by kernel_rfl) (fun _ _ _ h => h) (Or.inl ⟨by rfl, ?_⟩) hHeld ?_
    rotate_left 1
    · (intro w hSw; (try dsimp only at hSw); go_simp <;> with_reducible rfl)
    try simp only [Act.put, List.setIfInBounds_toArray, List.set_cons_zero, List.set_cons_succ, List.getElem_toArray, List.getElem_cons_succ, List.getElem_cons_zero]
    refine wpAnyH_take (i := 3) (v := ?_) rfl (by kernel_rfl) (by kernel_rfl) (by kernel_rfl) (fun _ _ _ h => h) (Or.inl ⟨by rfl, ?_⟩) hHeld ?_
    rotate_left 1
    · (intro w hSw; (try dsimp only at hSw); go_simp <;> with_reducible rfl)
    try simp only [Act.put, List.setIfInBounds_toArray, List.set_cons_zero, List.set_cons_succ, List.getElem_toArray, List.getElem_cons_succ, List.getElem_cons_zero]
    refine wpAnyH_take (i := 4) (v := ?_) rfl (by kernel_rfl) (by kernel_rfl) (by kernel_rfl) (fun _ _ _ h => h) (Or.inl ⟨by rfl, ?_⟩) hHeld ?_
    rotate_left 1
    · (intro w hSw; (try dsimp only at hSw); go_simp <;> with_reducible rfl)
    try simp only [Act.put, List.setIfInBounds_toArray, List.set_cons_zero, List.set_cons_succ, List.getElem_toArray, List.getElem_cons_succ, List.getElem_cons_zero]
    refine wpAnyH_take (i := 5) (v := ?_) rfl (by kernel_rfl) (by kernel_rfl) (by kernel_rfl) (fun _ _ _ h => h) (Or.inl ⟨by rfl, ?_⟩) hHeld ?_
    rotate_left 1
    · (intro w hSw; (try dsimp only at hSw); go_simp <;> with_reducible rfl)
    try simp only [Act.put, List.setIfInBounds_toArray, List.set_cons_zero, List.set_cons_succ, List.getElem_toArray, List.getElem_cons_succ, List.getElem_cons_zero]
    refine wpAnyH_take (i := 6) (v := ?_) rfl (by kernel_rfl) (by kernel_rfl) (by kernel_rfl) (fun _ _ _ h => h) (Or.inl ⟨by rfl, ?_⟩) hHeld ?_
    rotate_left 1
    · (intro w hSw; (try dsimp only at hSw); go_simp <;> with_reducible rfl)
    try simp only [Act.put, List.setIfInBounds_toArray, List.set_cons_zero, List.set_cons_succ, List.getElem_toArray, List.getElem_cons_succ, List.getElem_cons_zero]
    refine wpAnyH_take (i := 7) (v := ?_) rfl (by kernel_rfl) (by kernel_rfl) (by kernel_rfl) (fun _ _ _ h => h) (Or.inl ⟨by rfl, ?_⟩) hHeld ?_
    rotate_left 1
    · (intro w hSw; (try dsimp only at hSw); go_simp <;> with_reducible rfl)
    try simp only [Act.put, List.setIfInBounds_toArray, List.set_cons_zero, List.set_cons_succ, List.getElem_toArray, List.getElem_cons_succ, List.getElem_cons_zero]
    refine wpAnyH_ready (rs := [8]) (by kernel_rfl) (by simp) ?_
    refine AllReadyH.cons rfl (fun K hK => ?_) AllReadyH.nil
    clear hHeld
    go_simp
    go_at_call 17
    refine (HKC.out _).mono ?_
    rintro e w3 ⟨rfl, hacc⟩
    refine hK.out _ _ (PS.out _ ((Fr.refl _ _).drew.trans hacc)) (fun hHeld => ?_)
    clear hK K
    try simp only [Act.put, List.setIfInBounds_toArray, List.set_cons_zero, List.set_cons_succ, List.getElem_toArray, List.getElem_cons_succ, List.getElem_cons_zero]
    have HF3 := hid ((Fr.refl (fun _ => False) w2).drew.trans hacc)
    clear hacc
    refine wpAnyH_take (i := 9) (v := ?_) rfl (by kernel_rfl) (by kernel_rfl) (by kernel_rfl) (fun _ _ _ h => h) (Or.inl ⟨by rfl, ?_⟩) hHeld ?_
    rotate_left 1
    · (intro w hSw; (try dsimp only at hSw); go_simp <;> with_reducible rfl)
    try simp only [Act.put, List.setIfInBounds_toArray, List.set_cons_zero, List.set_cons_succ, List.getElem_toArray, List.getElem_cons_succ, List.getElem_cons_zero]
    refine wpAnyH_take (i := 10) (v := ?_) rfl (by kernel_rfl) (by kernel_rfl) (by kernel_rfl) (fun _ _ _ h => h) (Or.inl ⟨by rfl, ?_⟩) hHeld ?_
    rotate_left 1
    · (intro w hSw; (try dsimp only at hSw); go_simp <;> with_reducible rfl)
    try simp only [Act.put, List.setIfInBounds_toArray, List.set_cons_zero, List.set_cons_succ, List.getElem_toArray, List.getElem_cons_succ, List.getElem_cons_zero]
    refine wpAnyH_done (by kernel_rfl) ?_ _
    clear hHeld
    go_wp2_with fail
    go_ret
    refine ⟨rfl, ?_, Fr.mono (HF2.out.trans HF3.out) (fun _ _ h => h.elim)⟩
    rw [HMS2.out, same_at HSF.out]
    exact HG2.out.keep0 HF3.out
end
end Go.Proofs.Ytfkffjjkmckpnaa
