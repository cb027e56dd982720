/-
  THE WINDOW'S CALL Put, of the statements' own data. Conditions: numbers up to 1000.
-/
import Derived.Test.YtclaggjlacinlaaWin2
import Derived.RegionTactic
import Derived.BigRegion
import Derived.StillTailTactics
namespace Go.Proofs.Ytclaggjlacinlaa
open Go.RowKit
set_option linter.unusedSimpArgs false

theorem checkring_11 (w : World) : Calls Try.prog 19 #[.agg #[.int .i64 1, .int .i64 1]] w fun e w' => e = .returned (.int .i64 0) ∧ Fr (fun _ => False) w w' := by
  have h := checkring_any 1 1 w
  rw [show erOf (okRing 1 1) = 0 by decide] at h
  exact h
/-- The window, with how far it is. -/
structure WA (w0 w : World) (g b : Nat) (M : List (Int × (Int × Bool))) (aru : Int) : Prop where
  ex : ∃ high : Int, Blk w g #[.bool true, .map (some b), .int .i64 aru, .int .i64 high] 60 ∧ 0 ≤ aru ∧ aru ≤ 1000 ∧ 0 ≤ high ∧ high ≤ 1000
  map : MapIs w b (Value.int .i64) (M.map wm)
  keys : ∀ x ∈ M, 1 ≤ x.1 ∧ x.1 ≤ 1000
  fr : Fr (fun _ => False) w0 w
  lo : w0.heap.size ≤ g
  lob : w0.heap.size ≤ b
theorem WA.ws {w0 w : World} {g b : Nat} {M : List (Int × (Int × Bool))} {aru : Int} (h : WA w0 w g b M aru) : WS w0 w g b M := by
  obtain ⟨hi, r⟩ := h.ex
  exact ⟨⟨aru, hi, r⟩, h.map, h.keys, h.fr, h.lo, h.lob⟩

set_option maxRecDepth 100000 in
set_option maxHeartbeats 2000000 in
theorem put_new {w0 w : World} {g b : Nat} {M : List (Int × (Int × Bool))} (n kd : Int) (s : Bool) (h : WS w0 w g b M) (hl : wl M n = none) (h1 : 1 ≤ n) (h2 : n ≤ 1000) :
    Calls Try.prog 11 #[.pointer (some ⟨g, 0, none⟩), .agg #[.int .i64 1, .int .i64 1, .int .i64 n, .int .i64 1, .int .i64 0, .int .i64 kd, .int .i64 1, .int .i64 1, .int .i64 0, .int .i64 0, .int .i64 1, .int .i64 1, .bool s, .int .i64 0, .int .i64 0, .int .i64 0, .int .i64 0, .slice none 0 0]] w fun e w' => e = .returned (.tuple #[.bool true, .int .i64 0]) ∧ WS w0 w' g b (M ++ [(n, (kd, s))]) ∧ Fr (fun k => k = g ∨ k = b) w w' := by
  have HW := hid h
  have HL := hid hl
  clear h hl
  go_enter Try.func11, Try.ntmps11
  go_wp2_with (refine wpList_boxed rfl 37 _ rfl #[.int .i64 1, .int .i64 1, .int .i64 n, .int .i64 1, .int .i64 0, .int .i64 kd, .int .i64 1, .int .i64 1, .int .i64 0, .int .i64 0, .int .i64 1, .int .i64 1, .bool s, .int .i64 0, .int .i64 0, .int .i64 0, .int .i64 0, .slice none 0 0] rfl ?_)
  intro p w1 hp B1 f1 z1
  have HP := hid hp
  have HF1 := hid f1
  have HW1 := hid (HW.out.keep f1)
  have d2 : w1.cell? ⟨p, 2, none⟩ = some (.int .i64 n) := B1.cell 2 rfl
  clear hp f1 z1
  go_wp2_with fail
  refine (get_no n HW1.out HL.out).mono ?_
  rintro e w2 ⟨rfl, f2⟩
  have HF2 := hid (HF1.out.trans f2)
  have HW2 := hid (HW1.out.keep f2)
  have B2 := B1.keep f2 (fun h => h)
  clear d2 f2 B1
  go_wp2_with (refine wpList_new rfl 37 rfl #[.int .i64 0, .int .i64 0, .int .i64 0, .int .i64 0, .int .i64 0, .int .i64 0, .int .i64 0, .int .i64 0, .int .i64 0, .int .i64 0, .int .i64 0, .int .i64 0, .bool false, .int .i64 0, .int .i64 0, .int .i64 0, .int .i64 0, .slice none 0 0] zeroData ?_)
  intro d w3 hd B3 f3 z3
  have HD := hid hd
  have hpd : ¬ p = d := by have := B2.lt; omega
  have hgd : d ≠ g ∧ d ≠ b := by
    obtain ⟨_, _, hb, _⟩ := HW2.out.ex
    have := hb.lt; have := HW2.out.map.lt; omega
  have HF3 := hid (HF2.out.trans f3)
  have HW3 := hid (HW2.out.keep f3)
  have BP3 := B2.keep f3 (fun h => h)
  clear hd f3 z3 B2
  go_wp2_with (refine wpList_store_part rfl 37 _ _ rfl aggData d 0 rfl B3 (.agg #[.int .i64 0, .int .i64 0, .int .i64 0, .int .i64 0, .int .i64 0, .int .i64 0, .int .i64 0, .int .i64 0, .int .i64 0, .int .i64 0, .int .i64 0, .int .i64 0, .bool false, .int .i64 0, .int .i64 0, .int .i64 0, .int .i64 0, .slice none 0 0]) rfl rfl one_zd (by decide) #[.int .i64 0, .int .i64 0, .int .i64 0, .int .i64 0, .int .i64 0, .int .i64 0, .int .i64 0, .int .i64 0, .int .i64 0, .int .i64 0, .int .i64 0, .int .i64 0, .bool false, .int .i64 0, .int .i64 0, .int .i64 0, .int .i64 0, .slice none 0 0] rfl ?_)
  intro w4 B4 f4 z4
  have hdw : w.heap.size ≤ d := by have := HD.out; have := HF2.out.size; omega
  have HF4 := hid (HF3.out.into f4 hdw)
  have HW4 := hid (HW.out.keep HF4.out)
  have BP4 := BP3.keep f4 hpd
  clear f4 z4 B4 BP3 B3 HW3 HF3
  have c2 : w4.cell? ⟨p, 2, none⟩ = some (.int .i64 n) := BP4.cell 2 rfl
  have c0 : w4.cell? ⟨p, 0, none⟩ = some (.int .i64 1) := BP4.cell 0 rfl
  have c1 : w4.cell? ⟨p, 1, none⟩ = some (.int .i64 1) := BP4.cell 1 rfl
  go_wp2_with fail
  refine (wnone_any HW4.out).mono ?_
  rintro e w5 ⟨rfl, rfl⟩
  go_wp2_with fail
  refine (checkring_11 w4).mono ?_
  rintro e w5 ⟨rfl, f5⟩
  have HF5 := hid (HF4.out.trans f5)
  have HW5 := hid (HW.out.keep HF5.out)
  have BP5 := BP4.keep f5 (fun h => h)
  have HPB := hid BP5
  clear f5 HW4 HF4 BP4 c0 c1 c2 HF1 HW1 HW2 HF2
  have c2 : w5.cell? ⟨p, 2, none⟩ = some (.int .i64 n) := BP5.cell 2 rfl
  have n1 : ¬ n < 1 := by omega
  have n2 : ¬ (9007199254740991 < n) := by omega
  clear BP5
  go_upto_region 8 with (fail)
  obtain ⟨aru, high, hblk, hb1, hb2, hb3, hb4⟩ := HW5.out.ex
  have HG := hid hblk
  have HM := hid HW5.out.map
  have k1 : w5.cell? ⟨g, 1, none⟩ = some (.map (some b)) := hblk.cell 1 rfl
  have PS : Hid (∀ W, Fr (fun _ => False) w5 W → W.cell? ⟨g, 1, none⟩ = some (.map (some b)) ∧ W.cell? ⟨p, 2, none⟩ = some (.int .i64 n)) := hid (fun W f => ⟨(HG.out.keep f (fun h => h)).cell 1 rfl, (HPB.out.keep f (fun h => h)).cell 2 rfl⟩)
  have PL : Hid (∀ W, Fr (fun _ => False) w5 W → Blk W p #[.int .i64 1, .int .i64 1, .int .i64 n, .int .i64 1, .int .i64 0, .int .i64 kd, .int .i64 1, .int .i64 1, .int .i64 0, .int .i64 0, .int .i64 1, .int .i64 1, .bool s, .int .i64 0, .int .i64 0, .int .i64 0, .int .i64 0, .slice none 0 0] 37) := hid (fun W f => HPB.out.keep f (fun h => h))
  have PM : Hid (∀ W, Fr (fun _ => False) w5 W → MapIs W b (Value.int .i64) (M.map wm)) := hid (fun W f => HM.out.keep f (fun h => h))
  have hbb : b ≠ g ∧ b ≠ p := by
    have := HM.out.lt
    obtain ⟨es, c, h, _⟩ := HM.out
    refine ⟨fun e => ?_, fun e => ?_⟩
    · subst e; have hb := HG.out; unfold Blk at hb; rw [h] at hb; simp at hb
    · subst e; have hb := HPB.out; unfold Blk at hb; rw [h] at hb; simp at hb
  have PS2 : Hid (∀ W W', Fr (fun _ => False) w5 W → Fr (· = b) W W' → W'.cell? ⟨g, 1, none⟩ = some (.map (some b)) ∧ W'.cell? ⟨p, 2, none⟩ = some (.int .i64 n) ∧ Blk W' p #[.int .i64 1, .int .i64 1, .int .i64 n, .int .i64 1, .int .i64 0, .int .i64 kd, .int .i64 1, .int .i64 1, .int .i64 0, .int .i64 0, .int .i64 1, .int .i64 1, .bool s, .int .i64 0, .int .i64 0, .int .i64 0, .int .i64 0, .slice none 0 0] 37) := hid (fun W W' f f2 => by
    have h := (HPB.out.keep f (fun h => h)).keep f2 (fun e => hbb.2 e.symm)
    exact ⟨((HG.out.keep f (fun h => h)).keep f2 (fun e => hbb.1 e.symm)).cell 1 rfl, h.cell 2 rfl, h⟩)
  have PU : Hid (∀ W, Fr (fun _ => False) w5 W → ∃ w', (Instr.mapUpdate 58 (.map (some b)) (.int .i64 n) (.agg #[.int .i64 1, .int .i64 1, .int .i64 n, .int .i64 1, .int .i64 0, .int .i64 kd, .int .i64 1, .int .i64 1, .int .i64 0, .int .i64 0, .int .i64 1, .int .i64 1, .bool s, .int .i64 0, .int .i64 0, .int .i64 0, .int .i64 0, .slice none 0 0])).run Try.prog W = .ok () w' ∧ MapIs w' b (Value.int .i64) (put (M.map wm) n (datv n kd s)) ∧ Fr (· = b) W w') := hid (fun W f => run_mapUpdate_map (int_keyOk Try.underlying3) Try.underlying58 (PM.out W f) n (datv n kd s))
  have PO := hid (fun W (f : Fr (fun _ => False) w5 W) => (own_any n kd s W).mono (R' := fun e w' => e = .returned (.agg #[.int .i64 1, .int .i64 1, .int .i64 n, .int .i64 1, .int .i64 0, .int .i64 kd, .int .i64 1, .int .i64 1, .int .i64 0, .int .i64 0, .int .i64 1, .int .i64 1, .bool s, .int .i64 0, .int .i64 0, .int .i64 0, .int .i64 0, .slice none 0 0]) ∧ Fr (fun _ => False) w5 w') (fun e w' q => ⟨q.1, f.trans q.2⟩))
  have hacc := Fr.refl (fun _ => False) w5
  clear hblk
  obtain ⟨hk1, hk2⟩ := PS.out w5 (Fr.refl _ _)
  refine wp_region_held_drew (S := fun w' => w'.cell? ⟨g, 1, none⟩ = some (.map (some b)) ∧ w'.cell? ⟨p, 2, none⟩ = some (.int .i64 n) ∧ Blk w' p #[.int .i64 1, .int .i64 1, .int .i64 n, .int .i64 1, .int .i64 0, .int .i64 kd, .int .i64 1, .int .i64 1, .int .i64 0, .int .i64 0, .int .i64 1, .int .i64 1, .bool s, .int .i64 0, .int .i64 0, .int .i64 0, .int .i64 0, .slice none 0 0] 37) (by kernel_rfl) ⟨hk1, hk2, HPB.out⟩ (fun hHeld => ?_)
  refine wpAnyH_take (i := 0) (v := ?_) rfl (by kernel_rfl) (by kernel_rfl) (by kernel_rfl) (fun _ _ _ h => h) (Or.inl ⟨by rfl, ?_⟩) hHeld ?_
  rotate_left 1
  · (intro w hSw; (try dsimp only at hSw); go_simp <;> with_reducible rfl)
  try simp only [Act.put, List.setIfInBounds_toArray, List.set_cons_zero, List.set_cons_succ, List.getElem_toArray, List.getElem_cons_succ, List.getElem_cons_zero]
  refine wpAnyH_take (i := 1) (v := ?_) rfl (by kernel_rfl) (by kernel_rfl) (by kernel_rfl) (fun _ _ _ h => h) (Or.inl ⟨by rfl, ?_⟩) hHeld ?_
  rotate_left 1
  · (intro w hSw; (try dsimp only at hSw); go_simp <;> with_reducible rfl)
  try simp only [Act.put, List.setIfInBounds_toArray, List.set_cons_zero, List.set_cons_succ, List.getElem_toArray, List.getElem_cons_succ, List.getElem_cons_zero]
  refine wpAnyH_take (i := 2) (v := ?_) rfl (by kernel_rfl) (by kernel_rfl) (by kernel_rfl) (fun _ _ _ h => h) (Or.inl ⟨by rfl, ?_⟩) hHeld ?_
  rotate_left 1
  · (intro w hSw; (try dsimp only at hSw); go_simp <;> with_reducible rfl)
  try simp only [Act.put, List.setIfInBounds_toArray, List.set_cons_zero, List.set_cons_succ, List.getElem_toArray, List.getElem_cons_succ, List.getElem_cons_zero]
  refine wpAnyH_take (i := 3) (v := ?_) rfl (by kernel_rfl) (by kernel_rfl) (by kernel_rfl) (fun _ _ _ h => h) (Or.inl ⟨by rfl, ?_⟩) hHeld ?_
  rotate_left 1
  · (intro w hSw; (try dsimp only at hSw); go_simp <;> with_reducible rfl)
  try simp only [Act.put, List.setIfInBounds_toArray, List.set_cons_zero, List.set_cons_succ, List.getElem_toArray, List.getElem_cons_succ, List.getElem_cons_zero]
  refine wpAnyH_take (i := 4) (v := ?_) rfl (by kernel_rfl) (by kernel_rfl) (by kernel_rfl) (fun _ _ _ h => h) (Or.inl ⟨by rfl, ?_⟩) hHeld ?_
  rotate_left 1
  · (intro w hSw; (try dsimp only at hSw); go_simp <;> with_reducible rfl)
  try simp only [Act.put, List.setIfInBounds_toArray, List.set_cons_zero, List.set_cons_succ, List.getElem_toArray, List.getElem_cons_succ, List.getElem_cons_zero]
  refine wpAnyH_take (i := 5) (v := ?_) rfl (by kernel_rfl) (by kernel_rfl) (by kernel_rfl) (fun _ _ _ h => h) (Or.inl ⟨by rfl, ?_⟩) hHeld ?_
  rotate_left 1
  · (intro w hSw; (try dsimp only at hSw); go_simp <;> with_reducible rfl)
  try simp only [Act.put, List.setIfInBounds_toArray, List.set_cons_zero, List.set_cons_succ, List.getElem_toArray, List.getElem_cons_succ, List.getElem_cons_zero]
  refine wpAnyH_take (i := 6) (v := .agg #[.int .i64 1, .int .i64 1, .int .i64 n, .int .i64 1, .int .i64 0, .int .i64 kd, .int .i64 1, .int .i64 1, .int .i64 0, .int .i64 0, .int .i64 1, .int .i64 1, .bool s, .int .i64 0, .int .i64 0, .int .i64 0, .int .i64 0, .slice none 0 0]) rfl (by kernel_rfl) (by kernel_rfl) (by kernel_rfl) (fun _ _ _ h => h) (yields_load_part (by rfl) 37 (.tmp 3) (by rfl) aggData p 0 (by rfl) (fun W h => h.2.2) #[.int .i64 1, .int .i64 1, .int .i64 n, .int .i64 1, .int .i64 0, .int .i64 kd, .int .i64 1, .int .i64 1, .int .i64 0, .int .i64 0, .int .i64 1, .int .i64 1, .bool s, .int .i64 0, .int .i64 0, .int .i64 0, .int .i64 0, .slice none 0 0] (by rfl) (by rfl)) hHeld ?_
  try simp only [Act.put, List.setIfInBounds_toArray, List.set_cons_zero, List.set_cons_succ, List.getElem_toArray, List.getElem_cons_succ, List.getElem_cons_zero]
  refine wpAnyH_ready (rs := [7]) (by kernel_rfl) (by simp) ?_
  refine AllReadyH.cons rfl (fun K hK => ?_) AllReadyH.nil
  clear hHeld
  go_simp
  go_at_call 20
  refine (PO.out _ (Fr.refl _ _).drew).mono ?_
  rintro e w6 ⟨rfl, hacc⟩
  refine hK.out _ _ (⟨(PS.out _ hacc).1, (PS.out _ hacc).2, PL.out _ hacc⟩) (fun hHeld => ?_)
  clear hK K
  try simp only [Act.put, List.setIfInBounds_toArray, List.set_cons_zero, List.set_cons_succ, List.getElem_toArray, List.getElem_cons_succ, List.getElem_cons_zero]
  refine wpAnyH_ready (rs := [8]) (by kernel_rfl) (by simp) ?_
  refine AllReadyH.cons rfl (fun K hK => ?_) AllReadyH.nil
  clear hHeld
  refine step_mapUpdate_map (by rfl) (.tmp 40) (.tmp 42) (.tmp 44) 58 (by rfl) (int_keyOk Try.underlying3) Try.underlying58 (PM.out _ hacc) n (.agg #[.int .i64 1, .int .i64 1, .int .i64 n, .int .i64 1, .int .i64 0, .int .i64 kd, .int .i64 1, .int .i64 1, .int .i64 0, .int .i64 0, .int .i64 1, .int .i64 1, .bool s, .int .i64 0, .int .i64 0, .int .i64 0, .int .i64 0, .slice none 0 0]) (by rfl) (by rfl) (by rfl) ?_
  intro w7 hm7 f7
  refine hK.out _ _ (PS2.out _ _ hacc f7) (fun hHeld => ?_)
  clear hK K
  try simp only [Act.put, List.setIfInBounds_toArray, List.set_cons_zero, List.set_cons_succ, List.getElem_toArray, List.getElem_cons_succ, List.getElem_cons_zero]
  refine wpAnyH_done (by kernel_rfl) ?_ _
  clear hHeld
  have HG7 := hid ((HG.out.keep hacc (fun h => h)).keep f7 (fun e => hbb.1 e.symm))
  have HP7 := hid ((HPB.out.keep hacc (fun h => h)).keep f7 (fun e => hbb.2 e.symm))
  have HF7 : Hid (Fr (fun k => k = g ∨ k = b) w w7) := hid (((HF5.out.trans hacc).mono (fun _ _ h => h.elim)).step f7 (fun k _ e => .inr e))
  have HF07 := hid ((HW5.out.fr.trans hacc).into f7 HW5.out.lob)
  have hm7' : MapIs w7 b (Value.int .i64) ((M ++ [(n, (kd, s))]).map wm) := by rw [← put_wm HL.out]; exact hm7
  have HM7 := hid hm7'
  have c3 : w7.cell? ⟨g, 3, none⟩ = some (.int .i64 high) := HG7.out.cell 3 rfl
  have c2 : w7.cell? ⟨p, 2, none⟩ = some (.int .i64 n) := HP7.out.cell 2 rfl
  have y3 := HG7.out.free 3
  clear hm7 hm7' f7 hacc PS2 PS PL PM PU PO k1 hk1 hk2
  obtain ⟨mx, hmx, hmx0, hmx1⟩ : ∃ mx, (if high < n then n else high) = mx ∧ 0 ≤ mx ∧ mx ≤ 1000 := ⟨_, rfl, by split <;> omega, by split <;> omega⟩
  go_wp2_with fail
  go_still_tail 10, (by kernel_rfl)
  change wpList _ _ _ _ _ w7.drew
  go_wp2_with fail
  have HA8 : Hid (WA w0 (w7.setCell ⟨g, 3, none⟩ (.int .i64 mx)).drew g b (M ++ [(n, (kd, s))]) aru) := hid
    ⟨⟨mx, (HG7.out.set' 3 (.int .i64 mx) rfl).drew, hb1, hb2, hmx0, hmx1⟩, HM7.out.keep ((Fr.refl (· = g) w7).set1 3 _).drew (fun e => hbb.1 e), fun x hx => by
      rcases List.mem_append.1 hx with hx | hx
      · exact HW.out.keys x hx
      · simp at hx; subst hx; exact ⟨h1, h2⟩, (HF07.out.into ((Fr.refl (· = g) w7).set1 3 _) HW5.out.lo).drew, HW5.out.lo, HW5.out.lob⟩
  have HF8 : Hid (Fr (fun k => k = g ∨ k = b) w (w7.setCell ⟨g, 3, none⟩ (.int .i64 mx)).drew) := hid ((HF7.out.step ((Fr.refl (· = g) w7).set1 3 _) (fun k _ e => .inl e)).drew)
  clear HG7 HP7 HF7 HF07 HM7 c3 c2 y3 hmx hmx0 hmx1 HG HM HPB HF5 HW5 hb1 hb2 hb3 hb4
  generalize (w7.setCell ⟨g, 3, none⟩ (.int .i64 mx)).drew = w8 at *
  go_loopg [8] (1000 - aru).toNat (fun k _ wr => ∃ aru : Int, k = (1000 - aru).toNat ∧ WA w0 wr g b (M ++ [(n, (kd, s))]) aru ∧ Fr (fun k => k = g ∨ k = b) w wr)
  case atStart => exact ⟨aru, rfl, HA8.out, HF8.out⟩
  case round =>
    clear HA8 HF8 HW HL
    obtain ⟨aru, hk, hwa, hfr⟩ := hrel
    have HK := hid hk
    have HWA := hid hwa
    have HFR := hid hfr
    obtain ⟨high, hblk, hb1, hb2, hb3, hb4⟩ := hwa.ex
    have HG := hid hblk
    have PSr : Hid (∀ W, Fr (fun _ => False) wr W → W.cell? ⟨g, 1, none⟩ = some (.map (some b)) ∧ W.cell? ⟨g, 2, none⟩ = some (.int .i64 aru) ∧ MapIs W b (Value.int .i64) ((M ++ [(n, (kd, s))]).map wm)) := hid (fun W f => ⟨(HG.out.keep f (fun h => h)).cell 1 rfl, (HG.out.keep f (fun h => h)).cell 2 rfl, HWA.out.map.keep f (fun h => h)⟩)
    have hw1 : IntKind.i64.wrap (aru + 1) = aru + 1 := IntWalk.i64_in _ (by omega)
    have HLK := hid (look_wm (M ++ [(n, (kd, s))]) (aru + 1))
    clear hk hwa hfr hblk
    cases hq : wl (M ++ [(n, (kd, s))]) (aru + 1) with
    | none =>
      rw [hq] at HLK
      simp only [Option.map_none] at HLK
      clear hq
      go_wp2_with fail
      refine wp_region_held_drew (S := fun w' => w'.cell? ⟨g, 1, none⟩ = some (.map (some b)) ∧ w'.cell? ⟨g, 2, none⟩ = some (.int .i64 aru) ∧ MapIs w' b (Value.int .i64) ((M ++ [(n, (kd, s))]).map wm)) (by kernel_rfl) (PSr.out _ (Fr.refl _ _).drew) (fun hHeld => ?_)
      refine wpAnyH_take (i := 0) (v := ?_) rfl (by kernel_rfl) (by kernel_rfl) (by kernel_rfl) (fun _ _ _ h => h) (Or.inl ⟨by rfl, ?_⟩) hHeld ?_
      rotate_left 1
      · (intro w hSw; (try dsimp only at hSw); go_simp <;> with_reducible rfl)
      try simp only [Act.put, List.setIfInBounds_toArray, List.set_cons_zero, List.set_cons_succ, List.getElem_toArray, List.getElem_cons_succ, List.getElem_cons_zero]
      refine wpAnyH_take (i := 1) (v := ?_) rfl (by kernel_rfl) (by kernel_rfl) (by kernel_rfl) (fun _ _ _ h => h) (Or.inl ⟨by rfl, ?_⟩) hHeld ?_
      rotate_left 1
      · (intro w hSw; (try dsimp only at hSw); go_simp <;> with_reducible rfl)
      try simp only [Act.put, List.setIfInBounds_toArray, List.set_cons_zero, List.set_cons_succ, List.getElem_toArray, List.getElem_cons_succ, List.getElem_cons_zero]
      refine wpAnyH_take (i := 2) (v := ?_) rfl (by kernel_rfl) (by kernel_rfl) (by kernel_rfl) (fun _ _ _ h => h) (Or.inl ⟨by rfl, ?_⟩) hHeld ?_
      rotate_left 1
      · (intro w hSw; (try dsimp only at hSw); go_simp <;> with_reducible rfl)
      try simp only [Act.put, List.setIfInBounds_toArray, List.set_cons_zero, List.set_cons_succ, List.getElem_toArray, List.getElem_cons_succ, List.getElem_cons_zero]
      refine wpAnyH_take (i := 3) (v := ?_) rfl (by kernel_rfl) (by kernel_rfl) (by kernel_rfl) (fun _ _ _ h => h) (Or.inl ⟨by rfl, ?_⟩) hHeld ?_
      rotate_left 1
      · (intro w hSw; (try dsimp only at hSw); go_simp <;> with_reducible rfl)
      try simp only [Act.put, List.setIfInBounds_toArray, List.set_cons_zero, List.set_cons_succ, List.getElem_toArray, List.getElem_cons_succ, List.getElem_cons_zero]
      refine wpAnyH_take (i := 4) (v := ?_) rfl (by kernel_rfl) (by kernel_rfl) (by kernel_rfl) (fun _ _ _ h => h) (Or.inl ⟨by rfl, ?_⟩) hHeld ?_
      rotate_left 1
      · (intro w hSw; (try dsimp only at hSw); go_simp <;> with_reducible rfl)
      try simp only [Act.put, List.setIfInBounds_toArray, List.set_cons_zero, List.set_cons_succ, List.getElem_toArray, List.getElem_cons_succ, List.getElem_cons_zero]
      refine wpAnyH_take (i := 5) (v := ?_) rfl (by kernel_rfl) (by kernel_rfl) (by kernel_rfl) (fun _ _ _ h => h) (Or.inl ⟨by rfl, ?_⟩) hHeld ?_
      rotate_left 1
      · (intro w hSw; (try dsimp only at hSw); go_simp <;> with_reducible rfl)
      try simp only [Act.put, List.setIfInBounds_toArray, List.set_cons_zero, List.set_cons_succ, List.getElem_toArray, List.getElem_cons_succ, List.getElem_cons_zero]
      refine wpAnyH_take (i := 6) (v := ?_) rfl (by kernel_rfl) (by kernel_rfl) (by kernel_rfl) (fun _ _ _ h => h) (Or.inl ⟨by rfl, ?_⟩) hHeld ?_
      rotate_left 1
      · (intro w hSw; (try dsimp only at hSw); go_simp <;> with_reducible rfl)
      try simp only [Act.put, List.setIfInBounds_toArray, List.set_cons_zero, List.set_cons_succ, List.getElem_toArray, List.getElem_cons_succ, List.getElem_cons_zero]
      refine wpAnyH_take (i := 7) (v := ?_) rfl (by kernel_rfl) (by kernel_rfl) (by kernel_rfl) (fun _ _ _ h => h) (Or.inl ⟨by rfl, ?_⟩) hHeld ?_
      rotate_left 1
      · (intro w hSw; (try dsimp only at hSw); go_simp <;> with_reducible rfl)
      try simp only [Act.put, List.setIfInBounds_toArray, List.set_cons_zero, List.set_cons_succ, List.getElem_toArray, List.getElem_cons_succ, List.getElem_cons_zero]
      refine wpAnyH_take (i := 8) (v := ?_) rfl (by kernel_rfl) (by kernel_rfl) (by kernel_rfl) (fun _ _ _ h => h) (Or.inl ⟨by rfl, ?_⟩) hHeld ?_
      rotate_left 1
      · (intro w hSw; (try dsimp only at hSw); go_simp <;> with_reducible rfl)
      try simp only [Act.put, List.setIfInBounds_toArray, List.set_cons_zero, List.set_cons_succ, List.getElem_toArray, List.getElem_cons_succ, List.getElem_cons_zero]
      refine wpAnyH_take (i := 9) (v := .tuple #[.agg #[.int .i64 0, .int .i64 0, .int .i64 0, .int .i64 0, .int .i64 0, .int .i64 0, .int .i64 0, .int .i64 0, .int .i64 0, .int .i64 0, .int .i64 0, .int .i64 0, .bool false, .int .i64 0, .int .i64 0, .int .i64 0, .int .i64 0, .slice none 0 0], .bool false]) rfl (by kernel_rfl) (by kernel_rfl) (by kernel_rfl) (fun _ _ _ h => h) (yields_lookup (by rfl) (.tmp 59) (.tmp 64) 58 (by rfl) (int_keyOk Try.underlying3) Try.underlying58 zeroData (fun W h => h.2.2) (aru + 1) (by rfl) (by rfl) _ (by rw [HLK.out]; rfl)) hHeld ?_
      try simp only [Act.put, List.setIfInBounds_toArray, List.set_cons_zero, List.set_cons_succ, List.getElem_toArray, List.getElem_cons_succ, List.getElem_cons_zero]
      refine wpAnyH_take (i := 10) (v := ?_) rfl (by kernel_rfl) (by kernel_rfl) (by kernel_rfl) (fun _ _ _ h => h) (Or.inl ⟨by rfl, ?_⟩) hHeld ?_
      rotate_left 1
      · (intro w hSw; (try dsimp only at hSw); go_simp <;> with_reducible rfl)
      try simp only [Act.put, List.setIfInBounds_toArray, List.set_cons_zero, List.set_cons_succ, List.getElem_toArray, List.getElem_cons_succ, List.getElem_cons_zero]
      refine wpAnyH_take (i := 11) (v := ?_) rfl (by kernel_rfl) (by kernel_rfl) (by kernel_rfl) (fun _ _ _ h => h) (Or.inl ⟨by rfl, ?_⟩) hHeld ?_
      rotate_left 1
      · (intro w hSw; (try dsimp only at hSw); go_simp <;> with_reducible rfl)
      try simp only [Act.put, List.setIfInBounds_toArray, List.set_cons_zero, List.set_cons_succ, List.getElem_toArray, List.getElem_cons_succ, List.getElem_cons_zero]
      refine wpAnyH_take (i := 12) (v := ?_) rfl (by kernel_rfl) (by kernel_rfl) (by kernel_rfl) (fun _ _ _ h => h) (Or.inl ⟨by rfl, ?_⟩) hHeld ?_
      rotate_left 1
      · (intro w hSw; (try dsimp only at hSw); go_simp <;> with_reducible rfl)
      try simp only [Act.put, List.setIfInBounds_toArray, List.set_cons_zero, List.set_cons_succ, List.getElem_toArray, List.getElem_cons_succ, List.getElem_cons_zero]
      refine wpAnyH_ready (rs := [13]) (by kernel_rfl) (by simp) ?_
      refine AllReadyH.cons rfl (fun K hK => ?_) AllReadyH.nil
      clear hHeld
      refine step_new (by rfl) 37 (by rfl) #[.int .i64 0, .int .i64 0, .int .i64 0, .int .i64 0, .int .i64 0, .int .i64 0, .int .i64 0, .int .i64 0, .int .i64 0, .int .i64 0, .int .i64 0, .int .i64 0, .bool false, .int .i64 0, .int .i64 0, .int .i64 0, .int .i64 0, .slice none 0 0] zeroData ?_
      intro d8 w9 hd8 B9 f9 z9
      have hacc := (Fr.refl (fun _ => False) wr).drew.trans f9
      have hd8' : wr.heap.size ≤ d8 := by rw [hd8]; exact Nat.le_refl _
      clear hd8 z9
      refine hK.out _ _ (PSr.out _ hacc) (fun hHeld => ?_)
      clear hK K
      try simp only [Act.put, List.setIfInBounds_toArray, List.set_cons_zero, List.set_cons_succ, List.getElem_toArray, List.getElem_cons_succ, List.getElem_cons_zero]
      refine wpAnyH_ready (rs := [14]) (by kernel_rfl) (by simp) ?_
      refine AllReadyH.cons rfl (fun K hK => ?_) AllReadyH.nil
      clear hHeld
      refine step_store_part (by rfl) 37 (.tmp 8) (.tmp 66) (by rfl) aggData d8 0 (by rfl) B9 (.agg #[.int .i64 0, .int .i64 0, .int .i64 0, .int .i64 0, .int .i64 0, .int .i64 0, .int .i64 0, .int .i64 0, .int .i64 0, .int .i64 0, .int .i64 0, .int .i64 0, .bool false, .int .i64 0, .int .i64 0, .int .i64 0, .int .i64 0, .slice none 0 0]) (by rfl) rfl (one_zd) (by decide) #[.int .i64 0, .int .i64 0, .int .i64 0, .int .i64 0, .int .i64 0, .int .i64 0, .int .i64 0, .int .i64 0, .int .i64 0, .int .i64 0, .int .i64 0, .int .i64 0, .bool false, .int .i64 0, .int .i64 0, .int .i64 0, .int .i64 0, .slice none 0 0] rfl ?_
      intro w10 B10 f10 z10
      have hacc2 := hacc.into f10 hd8'
      clear B9 hacc f10 z10 B10
      refine hK.out _ _ (PSr.out _ hacc2) (fun hHeld => ?_)
      clear hK K
      try simp only [Act.put, List.setIfInBounds_toArray, List.set_cons_zero, List.set_cons_succ, List.getElem_toArray, List.getElem_cons_succ, List.getElem_cons_zero]
      refine wpAnyH_take (i := 15) (v := ?_) rfl (by kernel_rfl) (by kernel_rfl) (by kernel_rfl) (fun _ _ _ h => h) (Or.inl ⟨by rfl, ?_⟩) hHeld ?_
      rotate_left 1
      · (intro w hSw; (try dsimp only at hSw); go_simp <;> with_reducible rfl)
      try simp only [Act.put, List.setIfInBounds_toArray, List.set_cons_zero, List.set_cons_succ, List.getElem_toArray, List.getElem_cons_succ, List.getElem_cons_zero]
      refine wpAnyH_done (by kernel_rfl) ?_ _
      clear hHeld
      go_wp2_with fail
      go_ret2
      exact ⟨rfl, (HWA.out.ws).keep hacc2, HFR.out.trans (hacc2.mono (fun _ _ h => h.elim))⟩
    | some q =>
      obtain ⟨kd', s'⟩ := q
      have hkey := HWA.out.keys _ (wl_mem hq)
      simp only at hkey
      rw [hq] at HLK
      simp only [Option.map_some, datv] at HLK
      clear hq
      go_wp2_with fail
      refine wp_region_held_drew (S := fun w' => w'.cell? ⟨g, 1, none⟩ = some (.map (some b)) ∧ w'.cell? ⟨g, 2, none⟩ = some (.int .i64 aru) ∧ MapIs w' b (Value.int .i64) ((M ++ [(n, (kd, s))]).map wm)) (by kernel_rfl) (PSr.out _ (Fr.refl _ _).drew) (fun hHeld => ?_)
      refine wpAnyH_take (i := 0) (v := ?_) rfl (by kernel_rfl) (by kernel_rfl) (by kernel_rfl) (fun _ _ _ h => h) (Or.inl ⟨by rfl, ?_⟩) hHeld ?_
      rotate_left 1
      · (intro w hSw; (try dsimp only at hSw); go_simp <;> with_reducible rfl)
      try simp only [Act.put, List.setIfInBounds_toArray, List.set_cons_zero, List.set_cons_succ, List.getElem_toArray, List.getElem_cons_succ, List.getElem_cons_zero]
      refine wpAnyH_take (i := 1) (v := ?_) rfl (by kernel_rfl) (by kernel_rfl) (by kernel_rfl) (fun _ _ _ h => h) (Or.inl ⟨by rfl, ?_⟩) hHeld ?_
      rotate_left 1
      · (intro w hSw; (try dsimp only at hSw); go_simp <;> with_reducible rfl)
      try simp only [Act.put, List.setIfInBounds_toArray, List.set_cons_zero, List.set_cons_succ, List.getElem_toArray, List.getElem_cons_succ, List.getElem_cons_zero]
      refine wpAnyH_take (i := 2) (v := ?_) rfl (by kernel_rfl) (by kernel_rfl) (by kernel_rfl) (fun _ _ _ h => h) (Or.inl ⟨by rfl, ?_⟩) hHeld ?_
      rotate_left 1
      · (intro w hSw; (try dsimp only at hSw); go_simp <;> with_reducible rfl)
      try simp only [Act.put, List.setIfInBounds_toArray, List.set_cons_zero, List.set_cons_succ, List.getElem_toArray, List.getElem_cons_succ, List.getElem_cons_zero]
      refine wpAnyH_take (i := 3) (v := ?_) rfl (by kernel_rfl) (by kernel_rfl) (by kernel_rfl) (fun _ _ _ h => h) (Or.inl ⟨by rfl, ?_⟩) hHeld ?_
      rotate_left 1
      · (intro w hSw; (try dsimp only at hSw); go_simp <;> with_reducible rfl)
      try simp only [Act.put, List.setIfInBounds_toArray, List.set_cons_zero, List.set_cons_succ, List.getElem_toArray, List.getElem_cons_succ, List.getElem_cons_zero]
      refine wpAnyH_take (i := 4) (v := ?_) rfl (by kernel_rfl) (by kernel_rfl) (by kernel_rfl) (fun _ _ _ h => h) (Or.inl ⟨by rfl, ?_⟩) hHeld ?_
      rotate_left 1
      · (intro w hSw; (try dsimp only at hSw); go_simp <;> with_reducible rfl)
      try simp only [Act.put, List.setIfInBounds_toArray, List.set_cons_zero, List.set_cons_succ, List.getElem_toArray, List.getElem_cons_succ, List.getElem_cons_zero]
      refine wpAnyH_take (i := 5) (v := ?_) rfl (by kernel_rfl) (by kernel_rfl) (by kernel_rfl) (fun _ _ _ h => h) (Or.inl ⟨by rfl, ?_⟩) hHeld ?_
      rotate_left 1
      · (intro w hSw; (try dsimp only at hSw); go_simp <;> with_reducible rfl)
      try simp only [Act.put, List.setIfInBounds_toArray, List.set_cons_zero, List.set_cons_succ, List.getElem_toArray, List.getElem_cons_succ, List.getElem_cons_zero]
      refine wpAnyH_take (i := 6) (v := ?_) rfl (by kernel_rfl) (by kernel_rfl) (by kernel_rfl) (fun _ _ _ h => h) (Or.inl ⟨by rfl, ?_⟩) hHeld ?_
      rotate_left 1
      · (intro w hSw; (try dsimp only at hSw); go_simp <;> with_reducible rfl)
      try simp only [Act.put, List.setIfInBounds_toArray, List.set_cons_zero, List.set_cons_succ, List.getElem_toArray, List.getElem_cons_succ, List.getElem_cons_zero]
      refine wpAnyH_take (i := 7) (v := ?_) rfl (by kernel_rfl) (by kernel_rfl) (by kernel_rfl) (fun _ _ _ h => h) (Or.inl ⟨by rfl, ?_⟩) hHeld ?_
      rotate_left 1
      · (intro w hSw; (try dsimp only at hSw); go_simp <;> with_reducible rfl)
      try simp only [Act.put, List.setIfInBounds_toArray, List.set_cons_zero, List.set_cons_succ, List.getElem_toArray, List.getElem_cons_succ, List.getElem_cons_zero]
      refine wpAnyH_take (i := 8) (v := ?_) rfl (by kernel_rfl) (by kernel_rfl) (by kernel_rfl) (fun _ _ _ h => h) (Or.inl ⟨by rfl, ?_⟩) hHeld ?_
      rotate_left 1
      · (intro w hSw; (try dsimp only at hSw); go_simp <;> with_reducible rfl)
      try simp only [Act.put, List.setIfInBounds_toArray, List.set_cons_zero, List.set_cons_succ, List.getElem_toArray, List.getElem_cons_succ, List.getElem_cons_zero]
      refine wpAnyH_take (i := 9) (v := .tuple #[.agg #[.int .i64 1, .int .i64 1, .int .i64 (aru + 1), .int .i64 1, .int .i64 0, .int .i64 kd', .int .i64 1, .int .i64 1, .int .i64 0, .int .i64 0, .int .i64 1, .int .i64 1, .bool s', .int .i64 0, .int .i64 0, .int .i64 0, .int .i64 0, .slice none 0 0], .bool true]) rfl (by kernel_rfl) (by kernel_rfl) (by kernel_rfl) (fun _ _ _ h => h) (yields_lookup (by rfl) (.tmp 59) (.tmp 64) 58 (by rfl) (int_keyOk Try.underlying3) Try.underlying58 zeroData (fun W h => h.2.2) (aru + 1) (by rfl) (by rfl) _ (by rw [HLK.out]; rfl)) hHeld ?_
      try simp only [Act.put, List.setIfInBounds_toArray, List.set_cons_zero, List.set_cons_succ, List.getElem_toArray, List.getElem_cons_succ, List.getElem_cons_zero]
      refine wpAnyH_take (i := 10) (v := ?_) rfl (by kernel_rfl) (by kernel_rfl) (by kernel_rfl) (fun _ _ _ h => h) (Or.inl ⟨by rfl, ?_⟩) hHeld ?_
      rotate_left 1
      · (intro w hSw; (try dsimp only at hSw); go_simp <;> with_reducible rfl)
      try simp only [Act.put, List.setIfInBounds_toArray, List.set_cons_zero, List.set_cons_succ, List.getElem_toArray, List.getElem_cons_succ, List.getElem_cons_zero]
      refine wpAnyH_take (i := 11) (v := ?_) rfl (by kernel_rfl) (by kernel_rfl) (by kernel_rfl) (fun _ _ _ h => h) (Or.inl ⟨by rfl, ?_⟩) hHeld ?_
      rotate_left 1
      · (intro w hSw; (try dsimp only at hSw); go_simp <;> with_reducible rfl)
      try simp only [Act.put, List.setIfInBounds_toArray, List.set_cons_zero, List.set_cons_succ, List.getElem_toArray, List.getElem_cons_succ, List.getElem_cons_zero]
      refine wpAnyH_take (i := 12) (v := ?_) rfl (by kernel_rfl) (by kernel_rfl) (by kernel_rfl) (fun _ _ _ h => h) (Or.inl ⟨by rfl, ?_⟩) hHeld ?_
      rotate_left 1
      · (intro w hSw; (try dsimp only at hSw); go_simp <;> with_reducible rfl)
      try simp only [Act.put, List.setIfInBounds_toArray, List.set_cons_zero, List.set_cons_succ, List.getElem_toArray, List.getElem_cons_succ, List.getElem_cons_zero]
      refine wpAnyH_ready (rs := [13]) (by kernel_rfl) (by simp) ?_
      refine AllReadyH.cons rfl (fun K hK => ?_) AllReadyH.nil
      clear hHeld
      refine step_new (by rfl) 37 (by rfl) #[.int .i64 0, .int .i64 0, .int .i64 0, .int .i64 0, .int .i64 0, .int .i64 0, .int .i64 0, .int .i64 0, .int .i64 0, .int .i64 0, .int .i64 0, .int .i64 0, .bool false, .int .i64 0, .int .i64 0, .int .i64 0, .int .i64 0, .slice none 0 0] zeroData ?_
      intro d8 w9 hd8 B9 f9 z9
      have hacc := (Fr.refl (fun _ => False) wr).drew.trans f9
      have hd8' : wr.heap.size ≤ d8 := by rw [hd8]; exact Nat.le_refl _
      clear hd8 z9
      refine hK.out _ _ (PSr.out _ hacc) (fun hHeld => ?_)
      clear hK K
      try simp only [Act.put, List.setIfInBounds_toArray, List.set_cons_zero, List.set_cons_succ, List.getElem_toArray, List.getElem_cons_succ, List.getElem_cons_zero]
      refine wpAnyH_ready (rs := [14]) (by kernel_rfl) (by simp) ?_
      refine AllReadyH.cons rfl (fun K hK => ?_) AllReadyH.nil
      clear hHeld
      refine step_store_part (by rfl) 37 (.tmp 8) (.tmp 66) (by rfl) aggData d8 0 (by rfl) B9 (.agg #[.int .i64 1, .int .i64 1, .int .i64 (aru + 1), .int .i64 1, .int .i64 0, .int .i64 kd', .int .i64 1, .int .i64 1, .int .i64 0, .int .i64 0, .int .i64 1, .int .i64 1, .bool s', .int .i64 0, .int .i64 0, .int .i64 0, .int .i64 0, .slice none 0 0]) (by rfl) rfl (one_dat (aru + 1) kd' s') (by decide) #[.int .i64 1, .int .i64 1, .int .i64 (aru + 1), .int .i64 1, .int .i64 0, .int .i64 kd', .int .i64 1, .int .i64 1, .int .i64 0, .int .i64 0, .int .i64 1, .int .i64 1, .bool s', .int .i64 0, .int .i64 0, .int .i64 0, .int .i64 0, .slice none 0 0] rfl ?_
      intro w10 B10 f10 z10
      have hacc2 := hacc.into f10 hd8'
      clear B9 hacc f10 z10 B10
      refine hK.out _ _ (PSr.out _ hacc2) (fun hHeld => ?_)
      clear hK K
      try simp only [Act.put, List.setIfInBounds_toArray, List.set_cons_zero, List.set_cons_succ, List.getElem_toArray, List.getElem_cons_succ, List.getElem_cons_zero]
      refine wpAnyH_take (i := 15) (v := ?_) rfl (by kernel_rfl) (by kernel_rfl) (by kernel_rfl) (fun _ _ _ h => h) (Or.inl ⟨by rfl, ?_⟩) hHeld ?_
      rotate_left 1
      · (intro w hSw; (try dsimp only at hSw); go_simp <;> with_reducible rfl)
      try simp only [Act.put, List.setIfInBounds_toArray, List.set_cons_zero, List.set_cons_succ, List.getElem_toArray, List.getElem_cons_succ, List.getElem_cons_zero]
      refine wpAnyH_done (by kernel_rfl) ?_ _
      clear hHeld
      have G10 := HG.out.keep hacc2 (fun h => h)
      have e2 : w10.cell? ⟨g, 2, none⟩ = some (.int .i64 aru) := G10.cell 2 rfl
      have y2 := G10.free 2
      have HM10 := hid (HWA.out.map.keep hacc2 (fun h => h))
      have HA2 := hid hacc2
      have HG10 := hid G10
      have hgb : b ≠ g := hbb.1
      clear G10 hacc2
      go_wp2_with fail
      go_roundg (999 - aru).toNat
      case measure => have := HK.out; omega
      case rel =>
        exact ⟨aru + 1, by omega, ⟨⟨high, HG10.out.set' 2 _ rfl, by omega, by omega, hb3, hb4⟩, HM10.out.keep ((Fr.refl (· = g) w10).set1 2 _) (fun e => hgb e), HWA.out.keys, (HWA.out.fr.trans HA2.out).into ((Fr.refl (· = g) w10).set1 2 _) HWA.out.lo, HWA.out.lo, HWA.out.lob⟩,
          (HFR.out.trans (HA2.out.mono (fun _ _ h => h.elim))).step ((Fr.refl (· = g) w10).set1 2 _) (fun k _ e => .inl e)⟩
end Go.Proofs.Ytclaggjlacinlaa
