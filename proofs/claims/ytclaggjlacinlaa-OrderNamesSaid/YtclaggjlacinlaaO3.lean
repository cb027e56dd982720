/-
  THE DOCUMENT'S WINDOW: Put. Conditions: the statements' own data.
-/
import Derived.Test.YtclaggjlacinlaaO2
import Derived.StillTailTactics
namespace Go.Proofs.Ytclaggjlacinlaa
open Go.RowKit
set_option linter.unusedSimpArgs false

theorem step_build_one {P : Program} {ops : Array Oper} {o : Oper} {a : Act} {w : World} {Q : Exit → Act → World → Prop} {K : Act → World → Prop} {E : Prop} (hgd : o.guard = none) (t : TypeId) (x : Operand) (ho : o.op = .buildSlice t 1 #[(0, x)]) {elem : TypeId} {n : Nat} (ht : P.underlying t = some (.slice elem)) (hT : AggT P elem n) (h0 : 0 < n) (hb : n ≤ 1000) {zs : Array Value} (hz : ∀ W, (zeroValue elem).run P W = .ok (.agg zs) W) (cs : Array Value) (hn : cs.size = n) (hx : a.eval x = .agg cs)
    (h : ∀ b w', b = w.heap.size → Blk w' b cs elem → Fr (fun _ => False) w w' → w'.heap.size = b + 1 → K (a.put o.dst (.slice (some ⟨b, 0, none⟩) 1 1)) w') : if Region.wanted o (yielded ops a.tmps) = true then Oper.wp P o a w K Q else E := by
  have hw : Region.wanted o (yielded ops a.tmps) = true := by simp [Region.wanted, hgd]
  rw [if_pos hw]
  have hrun := run_buildSlice_one (w := w) ht hT.size h0 hb (hz w) cs hn
  unfold Oper.wp execOp
  simp [ho, hx, hrun, Result.andThen]
  exact h _ _ rfl (Blk.new _ _ _) ((Fr.refl _ _).alloc _) (by simp)
theorem rcheck_11 (w : World) : Calls Try.prog 30 #[.agg #[.int .i64 1, .int .i64 1]] w fun e w' => e = .returned (.int .i64 0) ∧ Fr (fun _ => False) w w' := by
  refine (rcheckring_any 1 1 w).mono fun e w' q => ⟨?_, q.2⟩
  rw [q.1]
  rfl
theorem forkN {Q : Prop} {F G : Nat → World → Prop} (h1 : (∀ z W, F z W → G z W) → Q) (h2 : ∀ z W, F z W → G z W) : Q := h1 h2
theorem wpAnyH_relist {P : Program} {md : Region.Mode} {ops : Array Oper} {Q : Exit → Act → World → Prop} {S : World → Prop} {fuel : Nat} {l l' : Array Bool} {a : Act} {w : World} (h : l = l')
    (H : wpAnyH P md ops Q S fuel l' a w) : wpAnyH P md ops Q S fuel l a w := h ▸ H
theorem flatD_one (x : Int × (Int × Bool)) : flatD [x] = datc x := by simp [flatD]
/-- What Put leaves of the row. -/
def PutRow (B : Nat) (w w' : World) (u : Value) (M : List (Int × (Int × Bool))) : Prop := w'.ownsRow 0 37 18 u M.length (flatD M) ∧ Above B (footOf u) ∧ Fr (fun k => B ≤ k) w w'

set_option maxRecDepth 100000 in
set_option maxHeartbeats 2000000 in
theorem rput_new {B : Nat} {w : World} {v : Nat} {M : List (Int × (Int × Bool))} (n kd : Int) (s : Bool) (h : RW B w v M) (hl : wl M n = none) (h1 : 1 ≤ n) (h2 : n ≤ 1000) (hlen : M.length ≤ 10000) :
    Calls Try.prog 23 #[.pointer (some ⟨v, 0, none⟩), .agg #[.int .i64 1, .int .i64 1, .int .i64 n, .int .i64 1, .int .i64 0, .int .i64 kd, .int .i64 1, .int .i64 1, .int .i64 0, .int .i64 0, .int .i64 1, .int .i64 1, .bool s, .int .i64 0, .int .i64 0, .int .i64 0, .int .i64 0, .slice none 0 0]] w fun e w' => e = .returned (.tuple #[.bool true, .int .i64 0]) ∧ RW B w' v (M ++ [(n, (kd, s))]) ∧ Fr (fun k => B ≤ k) w w' := by
  have HW := hid h
  have HL := hid hl
  have HLEN := hid hlen
  clear h hl hlen
  go_enter Try.func23, Try.ntmps23
  go_wp2_with (refine wpList_boxed rfl 37 _ rfl #[.int .i64 1, .int .i64 1, .int .i64 n, .int .i64 1, .int .i64 0, .int .i64 kd, .int .i64 1, .int .i64 1, .int .i64 0, .int .i64 0, .int .i64 1, .int .i64 1, .bool s, .int .i64 0, .int .i64 0, .int .i64 0, .int .i64 0, .slice none 0 0] rfl ?_)
  intro b w1 hb B1 f1 z1
  have HB := hid hb
  have HF1 := hid f1
  have HBB := hid B1
  have HW1 := hid (HW.out.keep f1)
  have c0 : w1.cell? ⟨b, 0, none⟩ = some (.int .i64 1) := B1.cell 0 rfl
  have c1 : w1.cell? ⟨b, 1, none⟩ = some (.int .i64 1) := B1.cell 1 rfl
  clear hb z1 f1 B1
  go_wp2_with fail
  refine (rcheck_11 w1).mono ?_
  rintro e w2 ⟨rfl, f2⟩
  have B2 := HBB.out.keep f2 (fun h => h)
  have HBB2 := hid B2
  have HF2 := hid (HF1.out.trans f2)
  have HW2 := hid (HW1.out.keep f2)
  have c2 : w2.cell? ⟨b, 2, none⟩ = some (.int .i64 n) := B2.cell 2 rfl
  have n1 : ¬ n < 1 := by omega
  have n2 : ¬ 9007199254740991 < n := by omega
  clear f2 B2 c0 c1
  go_wp2_with fail
  refine (rget_no n HW2.out HL.out (by have := HLEN.out; omega)).mono ?_
  rintro e w3 ⟨rfl, f3⟩
  have HBB3 := hid (HBB2.out.keep f3 (fun h => h))
  have HF3 := hid (HF2.out.trans f3)
  have HW3 := hid (HW2.out.keep f3)
  clear f3 c2
  go_wp2_with (refine wpList_new rfl 37 rfl #[.int .i64 0, .int .i64 0, .int .i64 0, .int .i64 0, .int .i64 0, .int .i64 0, .int .i64 0, .int .i64 0, .int .i64 0, .int .i64 0, .int .i64 0, .int .i64 0, .bool false, .int .i64 0, .int .i64 0, .int .i64 0, .int .i64 0, .slice none 0 0] zeroData ?_)
  intro x w4 hx B4 f4 z4
  have HBB4 := hid (HBB3.out.keep f4 (fun h => h))
  have HF4 := hid (HF3.out.trans f4)
  have HW4 := hid (HW3.out.keep f4)
  have HX := hid hx
  have hbx : ¬ b = x := by have := HBB3.out.lt; omega
  have HSZ := hid HF3.out.size
  clear hx f4 z4
  go_wp2_with (refine wpList_store_part rfl 37 _ _ rfl aggData x 0 rfl B4 (.agg #[.int .i64 0, .int .i64 0, .int .i64 0, .int .i64 0, .int .i64 0, .int .i64 0, .int .i64 0, .int .i64 0, .int .i64 0, .int .i64 0, .int .i64 0, .int .i64 0, .bool false, .int .i64 0, .int .i64 0, .int .i64 0, .int .i64 0, .slice none 0 0]) rfl rfl one_zd (Nat.le_refl 18) #[.int .i64 0, .int .i64 0, .int .i64 0, .int .i64 0, .int .i64 0, .int .i64 0, .int .i64 0, .int .i64 0, .int .i64 0, .int .i64 0, .int .i64 0, .int .i64 0, .bool false, .int .i64 0, .int .i64 0, .int .i64 0, .int .i64 0, .slice none 0 0] rfl ?_)
  intro w5 B5 f5 z5
  have HBB5 := hid (HBB4.out.keep f5 hbx)
  have HF5 := hid (HF4.out.into f5 (by have := HX.out; have := HSZ.out; omega))
  clear f5 z5 B5 B4
  have HW5 := hid (HW.out.keep HF5.out)
  go_wp2_with fail
  obtain ⟨row, top, hblk, hrow, hab, ht0, ht1⟩ := HW5.out.ex
  obtain ⟨ao, cap, rfl⟩ := rowN_shape hrow
  have HROW := hid hrow
  have HAB := hid hab
  have HVB := hid hblk
  have HVX : Hid (v ∉ footOf (.slice ao M.length cap)) := hid (fun hk => by
    obtain ⟨cs, hc⟩ := row_type hrow hk
    exact absurd (hc.type hblk) (by decide))
  have HBX : Hid (b ∉ footOf (.slice ao M.length cap)) := hid (fun hk => by
    have h1 := HW.out.ex
    obtain ⟨r0, t0, q1, q2, _⟩ := h1
    have q3 := row_keep q2 HF5.out (fun _ _ h => h)
    have q4 := q1.keep HF5.out (fun h => h)
    have := q4.same hblk
    simp at this
    obtain ⟨e1, _⟩ := this
    subst e1
    obtain ⟨cs, hc⟩ := row_type q2 hk
    have := hc.lt
    have := HB.out
    omega)
  clear hrow hab hblk
  obtain ⟨i0, hi0, i1, i2, i3⟩ := dataI
  have PS : Hid (∀ W, Fr (fun _ => False) w5 W → W.cell? ⟨v, 0, none⟩ = some (.slice ao M.length cap) ∧ Blk W b #[.int .i64 1, .int .i64 1, .int .i64 n, .int .i64 1, .int .i64 0, .int .i64 kd, .int .i64 1, .int .i64 1, .int .i64 0, .int .i64 0, .int .i64 1, .int .i64 1, .bool s, .int .i64 0, .int .i64 0, .int .i64 0, .int .i64 0, .slice none 0 0] 37) := hid (fun W f => ⟨(HVB.out.keep f (fun h => h)).cell 0 rfl, HBB5.out.keep f (fun h => h)⟩)
  have PQ : Hid (∀ W W', Fr (fun _ => False) w5 W → Fr (· ∈ footOf (.slice ao M.length cap)) W W' → Blk W' v #[.slice ao M.length cap, .int .i64 top] 76 ∧ Blk W' b #[.int .i64 1, .int .i64 1, .int .i64 n, .int .i64 1, .int .i64 0, .int .i64 kd, .int .i64 1, .int .i64 1, .int .i64 0, .int .i64 0, .int .i64 1, .int .i64 1, .bool s, .int .i64 0, .int .i64 0, .int .i64 0, .int .i64 0, .slice none 0 0] 37) := hid (by
    intro W W' f g
    have q1 := Blk.keep HVB.out f (fun h => h)
    have q2 := Blk.keep HBB5.out f (fun h => h)
    exact ⟨Blk.keep q1 g HVX.out, Blk.keep q2 g HBX.out⟩)
  refine wp_region_held_drew (S := fun w' => Blk w' b #[.int .i64 1, .int .i64 1, .int .i64 n, .int .i64 1, .int .i64 0, .int .i64 kd, .int .i64 1, .int .i64 1, .int .i64 0, .int .i64 0, .int .i64 1, .int .i64 1, .bool s, .int .i64 0, .int .i64 0, .int .i64 0, .int .i64 0, .slice none 0 0] 37) (by kernel_rfl) (HBB5.out.drew) (fun _ => ?_)
  have hacc : Fr (fun _ => False) w5 w5.drew := (Fr.refl _ _).drew
  refine wpAnyH_take (i := 0) (v := ?_) rfl (by kernel_rfl) (by kernel_rfl) (by kernel_rfl) (fun _ _ _ h => h) (Or.inl ⟨by rfl, ?_⟩) ((PS.out _ hacc).2) ?_
  rotate_left 1
  · (intro w hSw; (try dsimp only at hSw); go_simp <;> with_reducible rfl)
  try simp only [Act.put, List.setIfInBounds_toArray, List.set_cons_zero, List.set_cons_succ, List.getElem_toArray, List.getElem_cons_succ, List.getElem_cons_zero]
  refine wpAnyH_take (i := 1) (v := ?_) rfl (by kernel_rfl) (by kernel_rfl) (by kernel_rfl) (fun _ _ _ h => h) (Or.inl ⟨by rfl, ?_⟩) ((PS.out _ hacc).2) ?_
  rotate_left 1
  · (intro w hSw; (try dsimp only at hSw); go_simp <;> with_reducible rfl)
  try simp only [Act.put, List.setIfInBounds_toArray, List.set_cons_zero, List.set_cons_succ, List.getElem_toArray, List.getElem_cons_succ, List.getElem_cons_zero]
  refine wpAnyH_take (i := 2) (v := ?_) rfl (by kernel_rfl) (by kernel_rfl) (by kernel_rfl) (fun _ _ _ h => h) (Or.inl ⟨by rfl, ?_⟩) ((PS.out _ hacc).2) ?_
  rotate_left 1
  · (intro w hSw; (try dsimp only at hSw); go_simp <;> with_reducible rfl)
  try simp only [Act.put, List.setIfInBounds_toArray, List.set_cons_zero, List.set_cons_succ, List.getElem_toArray, List.getElem_cons_succ, List.getElem_cons_zero]
  refine wpAnyH_take (i := 3) (v := ?_) rfl (by kernel_rfl) (by kernel_rfl) (by kernel_rfl) (fun _ _ _ h => h) (Or.inl ⟨by rfl, ?_⟩) ((PS.out _ hacc).2) ?_
  rotate_left 1
  · (intro w hSw; (try dsimp only at hSw); go_simp <;> with_reducible rfl)
  try simp only [Act.put, List.setIfInBounds_toArray, List.set_cons_zero, List.set_cons_succ, List.getElem_toArray, List.getElem_cons_succ, List.getElem_cons_zero]
  refine wpAnyH_take (i := 5) (v := .agg #[.int .i64 1, .int .i64 1, .int .i64 n, .int .i64 1, .int .i64 0, .int .i64 kd, .int .i64 1, .int .i64 1, .int .i64 0, .int .i64 0, .int .i64 1, .int .i64 1, .bool s, .int .i64 0, .int .i64 0, .int .i64 0, .int .i64 0, .slice none 0 0]) rfl (by kernel_rfl) (by kernel_rfl) (by kernel_rfl) (fun _ _ _ h => h) (yields_load_part (by rfl) 37 (.tmp 3) (by rfl) aggData b 0 (by rfl) (fun W h => h) #[.int .i64 1, .int .i64 1, .int .i64 n, .int .i64 1, .int .i64 0, .int .i64 kd, .int .i64 1, .int .i64 1, .int .i64 0, .int .i64 0, .int .i64 1, .int .i64 1, .bool s, .int .i64 0, .int .i64 0, .int .i64 0, .int .i64 0, .slice none 0 0] (by rfl) (by rfl)) ((PS.out _ hacc).2) ?_
  try simp only [Act.put, List.setIfInBounds_toArray, List.set_cons_zero, List.set_cons_succ, List.getElem_toArray, List.getElem_cons_succ, List.getElem_cons_zero]
  apply forkN (F := fun z W => Blk W z #[.int .i64 1, .int .i64 1, .int .i64 n, .int .i64 1, .int .i64 0, .int .i64 kd, .int .i64 1, .int .i64 1, .int .i64 0, .int .i64 0, .int .i64 1, .int .i64 1, .bool s, .int .i64 0, .int .i64 0, .int .i64 0, .int .i64 0, .slice none 0 0] 37 ∧ Fr (fun _ => False) w5 W)
  · intro key
    refine wpAnyH_ready (rs := [4, 6]) (by kernel_rfl) (by simp) ?_
    refine AllReadyH.cons rfl (fun K hK => ?_) (AllReadyH.cons rfl (fun K hK => ?_) (AllReadyH.nil))
    · have c0 := (PS.out _ hacc).1
      go_simp
      clear c0
      refine hK.out _ _ ((PS.out _ hacc).2) (fun _ => ?_)
      clear hK K
      try simp only [Act.put, List.setIfInBounds_toArray, List.set_cons_zero, List.set_cons_succ, List.getElem_toArray, List.getElem_cons_succ, List.getElem_cons_zero]
      refine wpAnyH_ready (rs := [6]) (by kernel_rfl) (by simp) ?_
      refine AllReadyH.cons rfl (fun K hK => ?_) (AllReadyH.nil)
      go_simp
      go_at_call 31
      refine (rcopy14_any n kd s _).mono ?_
      rintro e w7 ⟨rfl, f7⟩
      have hacc := hacc.trans f7
      refine hK.out _ _ ((PS.out _ hacc).2) (fun _ => ?_)
      clear hK K
      try simp only [Act.put, List.setIfInBounds_toArray, List.set_cons_zero, List.set_cons_succ, List.getElem_toArray, List.getElem_cons_succ, List.getElem_cons_zero]
      refine wpAnyH_ready (rs := [7]) (by kernel_rfl) (by simp) ?_
      refine AllReadyH.cons rfl (fun K hK => ?_) (AllReadyH.nil)
      refine step_build_one (by rfl) 44 (.tmp 36) (by rfl) Try.underlying44 aggData (by decide) (by decide) zeroData #[.int .i64 1, .int .i64 1, .int .i64 n, .int .i64 1, .int .i64 0, .int .i64 kd, .int .i64 1, .int .i64 1, .int .i64 0, .int .i64 0, .int .i64 1, .int .i64 1, .bool s, .int .i64 0, .int .i64 0, .int .i64 0, .int .i64 0, .slice none 0 0] (by rfl) (by rfl) ?_
      intro z8 w8 hz8 B8 f8 _
      have hacc := hacc.trans f8
      clear f8 hz8
      refine hK.out _ _ ((PS.out _ hacc).2) (fun _ => ?_)
      clear hK K
      try simp only [Act.put, List.setIfInBounds_toArray, List.set_cons_zero, List.set_cons_succ, List.getElem_toArray, List.getElem_cons_succ, List.getElem_cons_zero]
      refine wpAnyH_relist (l' := #[true, true, true, true, true, true, true, true, false, false, false, false]) (by kernel_rfl) ?_
      exact key z8 w8 ⟨B8, hacc⟩
    · go_simp
      go_at_call 31
      refine (rcopy14_any n kd s _).mono ?_
      rintro e w7 ⟨rfl, f7⟩
      have hacc := hacc.trans f7
      refine hK.out _ _ ((PS.out _ hacc).2) (fun _ => ?_)
      clear hK K
      try simp only [Act.put, List.setIfInBounds_toArray, List.set_cons_zero, List.set_cons_succ, List.getElem_toArray, List.getElem_cons_succ, List.getElem_cons_zero]
      refine wpAnyH_ready (rs := [4, 7]) (by kernel_rfl) (by simp) ?_
      refine AllReadyH.cons rfl (fun K hK => ?_) (AllReadyH.cons rfl (fun K hK => ?_) (AllReadyH.nil))
      · have c0 := (PS.out _ hacc).1
        go_simp
        clear c0
        refine hK.out _ _ ((PS.out _ hacc).2) (fun _ => ?_)
        clear hK K
        try simp only [Act.put, List.setIfInBounds_toArray, List.set_cons_zero, List.set_cons_succ, List.getElem_toArray, List.getElem_cons_succ, List.getElem_cons_zero]
        refine wpAnyH_ready (rs := [7]) (by kernel_rfl) (by simp) ?_
        refine AllReadyH.cons rfl (fun K hK => ?_) (AllReadyH.nil)
        refine step_build_one (by rfl) 44 (.tmp 36) (by rfl) Try.underlying44 aggData (by decide) (by decide) zeroData #[.int .i64 1, .int .i64 1, .int .i64 n, .int .i64 1, .int .i64 0, .int .i64 kd, .int .i64 1, .int .i64 1, .int .i64 0, .int .i64 0, .int .i64 1, .int .i64 1, .bool s, .int .i64 0, .int .i64 0, .int .i64 0, .int .i64 0, .slice none 0 0] (by rfl) (by rfl) ?_
        intro z8 w8 hz8 B8 f8 _
        have hacc := hacc.trans f8
        clear f8 hz8
        refine hK.out _ _ ((PS.out _ hacc).2) (fun _ => ?_)
        clear hK K
        try simp only [Act.put, List.setIfInBounds_toArray, List.set_cons_zero, List.set_cons_succ, List.getElem_toArray, List.getElem_cons_succ, List.getElem_cons_zero]
        refine wpAnyH_relist (l' := #[true, true, true, true, true, true, true, true, false, false, false, false]) (by kernel_rfl) ?_
        exact key z8 w8 ⟨B8, hacc⟩
      · refine step_build_one (by rfl) 44 (.tmp 36) (by rfl) Try.underlying44 aggData (by decide) (by decide) zeroData #[.int .i64 1, .int .i64 1, .int .i64 n, .int .i64 1, .int .i64 0, .int .i64 kd, .int .i64 1, .int .i64 1, .int .i64 0, .int .i64 0, .int .i64 1, .int .i64 1, .bool s, .int .i64 0, .int .i64 0, .int .i64 0, .int .i64 0, .slice none 0 0] (by rfl) (by rfl) ?_
        intro z8 w8 hz8 B8 f8 _
        have hacc := hacc.trans f8
        clear f8 hz8
        refine hK.out _ _ ((PS.out _ hacc).2) (fun _ => ?_)
        clear hK K
        try simp only [Act.put, List.setIfInBounds_toArray, List.set_cons_zero, List.set_cons_succ, List.getElem_toArray, List.getElem_cons_succ, List.getElem_cons_zero]
        refine wpAnyH_ready (rs := [4]) (by kernel_rfl) (by simp) ?_
        refine AllReadyH.cons rfl (fun K hK => ?_) (AllReadyH.nil)
        have c0 := (PS.out _ hacc).1
        go_simp
        clear c0
        refine hK.out _ _ ((PS.out _ hacc).2) (fun _ => ?_)
        clear hK K
        try simp only [Act.put, List.setIfInBounds_toArray, List.set_cons_zero, List.set_cons_succ, List.getElem_toArray, List.getElem_cons_succ, List.getElem_cons_zero]
        refine wpAnyH_relist (l' := #[true, true, true, true, true, true, true, true, false, false, false, false]) (by kernel_rfl) ?_
        exact key z8 w8 ⟨B8, hacc⟩
  clear hacc
  intro z8 w8 hF
  obtain ⟨B8, hacc⟩ := hF
  refine wpAnyH_ready (rs := [8]) (by kernel_rfl) (by simp) ?_
  refine AllReadyH.cons rfl (fun K hK => ?_) (AllReadyH.nil)
  refine step_append_row (by rfl) (.tmp 34) (.tmp 37) 44 (by rfl) 37 i0 _ 18 160 Try.underlying44 hi0 i1 i2 i3 rfl (by decide) (.slice ao M.length cap) M.length (flatD M) (by rfl) (row_keep HROW.out hacc (fun _ _ h => h)) ⟨z8, 0, none⟩ 1 1 (datc (n, (kd, s))) (by rfl) rfl (blk_src B8 _ rfl) (datc_one _) (by have := HLEN.out; unfold maxLen; omega) (by have := HLEN.out; omega) ?_
  intro u9 w9 r9 f9 g9 _
  obtain ⟨uo, uc, rfl⟩ := rowN_shape r9
  refine hK.out _ _ ((PQ.out _ _ hacc f9).2) (fun _ => ?_)
  clear hK K
  try simp only [Act.put, List.setIfInBounds_toArray, List.set_cons_zero, List.set_cons_succ, List.getElem_toArray, List.getElem_cons_succ, List.getElem_cons_zero]
  refine wpAnyH_take (i := 9) (v := ?_) rfl (by kernel_rfl) (by kernel_rfl) (by kernel_rfl) (fun _ _ _ h => h) (Or.inl ⟨by rfl, ?_⟩) ((PQ.out _ _ hacc f9).2) ?_
  rotate_left 1
  · (intro w hSw; (try dsimp only at hSw); go_simp <;> with_reducible rfl)
  try simp only [Act.put, List.setIfInBounds_toArray, List.set_cons_zero, List.set_cons_succ, List.getElem_toArray, List.getElem_cons_succ, List.getElem_cons_zero]
  refine wpAnyH_take (i := 10) (v := ?_) rfl (by kernel_rfl) (by kernel_rfl) (by kernel_rfl) (fun _ _ _ h => h) (Or.inl ⟨by rfl, ?_⟩) ((PQ.out _ _ hacc f9).2) ?_
  rotate_left 1
  · (intro w hSw; (try dsimp only at hSw); go_simp <;> with_reducible rfl)
  try simp only [Act.put, List.setIfInBounds_toArray, List.set_cons_zero, List.set_cons_succ, List.getElem_toArray, List.getElem_cons_succ, List.getElem_cons_zero]
  have hvv := (PQ.out _ _ hacc f9).1
  have c9 : w9.cell? ⟨v, 0, none⟩ = some (.slice ao M.length cap) := hvv.cell 0 rfl
  have y9 : w9.frozen? ⟨v, 0, none⟩ = false := hvv.free 0
  have hvb : ¬ b = v := fun e => by subst e; exact absurd ((PQ.out _ _ hacc f9).2.type hvv) (by decide)
  refine wpAnyH_ready (rs := [11]) (by kernel_rfl) (by simp) ?_
  refine AllReadyH.cons rfl (fun K hK => ?_) (AllReadyH.nil)
  go_simp
  refine hK.out _ _ ((PQ.out _ _ hacc f9).2.other (p := ⟨v, 0, none⟩) hvb (.slice uo (M.length + 1) uc)) (fun _ => ?_)
  clear hK K c9 y9 hvv hvb
  try simp only [Act.put, List.setIfInBounds_toArray, List.set_cons_zero, List.set_cons_succ, List.getElem_toArray, List.getElem_cons_succ, List.getElem_cons_zero]
  refine wpAnyH_done (by kernel_rfl) ?_ _
  have HF9 := hid hacc
  have HR9 := hid r9
  have HG9 := hid g9
  have HFF9 := hid f9
  have hv9 := (PQ.out _ _ HF9.out HFF9.out).1
  have hb9 := (PQ.out _ _ HF9.out HFF9.out).2
  have B10 := hv9.set' 0 (.slice uo (M.length + 1) uc) (ds := #[(.slice uo (M.length + 1) uc), .int .i64 top]) rfl
  have hvb : ¬ b = v := fun e => by subst e; exact absurd (hb9.type hv9) (by decide)
  have BB10 := hb9.other (p := ⟨v, 0, none⟩) hvb (.slice uo (M.length + 1) uc)
  obtain ⟨mx, hmx, hm0, hm1⟩ : ∃ mx : Int, (if top < n then n else top) = mx ∧ 0 ≤ mx ∧ mx ≤ 1000 := ⟨_, rfl, by split <;> omega, by split <;> omega⟩
  have hvr : Hid (w9.ownsRow 0 37 18 (.slice uo (M.length + 1) uc) (M ++ [(n, (kd, s))]).length (flatD (M ++ [(n, (kd, s))]))) := hid (by
    have := HR9.out
    rw [← flatD_one, ← flatD_append] at this
    simpa using this)
  have hva : Hid (Above B (footOf (.slice uo (M.length + 1) uc))) := hid (fun k hk => by
    rcases HG9.out k hk with h | h
    · exact HAB.out k h
    · have := HF5.out.size; have := HF9.out.size; have := HW.out.lo; obtain ⟨_, _, q, _⟩ := HW.out.ex; have := q.lt; omega)
  have hvn : v ∉ footOf (.slice uo (M.length + 1) uc) := fun hk => by
    obtain ⟨cs, hc⟩ := row_type hvr.out hk
    exact absurd (hc.type hv9) (by decide)
  have VN : ∀ k, k ∈ footOf (.slice uo (M.length + 1) uc) → k = v → False := fun k hk e => by subst e; exact hvn hk
  clear r9 g9 f9 hacc hv9 hb9 hvn
  have HC1 : Hid ((w9.setCell ⟨v, 0, none⟩ (.slice uo (M.length + 1) uc)).drew.cell? ⟨v, 1, none⟩ = some (.int .i64 top)) := hid (B10.drew.cell 1 rfl)
  have HY1 : Hid ((w9.setCell ⟨v, 0, none⟩ (.slice uo (M.length + 1) uc)).drew.frozen? ⟨v, 1, none⟩ = false) := hid (B10.drew.free 1)
  have HB10 := hid B10
  have HBB10 := hid BB10
  clear B10 BB10
  go_wp2_with fail
  refine wp_region_held_drew (S := fun w' => w'.cell? ⟨b, 2, none⟩ = some (.int .i64 n)) (by kernel_rfl) ((HBB10.out.drew.cell 2 rfl)) (fun hHeld => ?_)
  refine wpAnyH_take (i := 0) (v := ?_) rfl (by kernel_rfl) (by kernel_rfl) (by kernel_rfl) (fun _ _ _ h => h) (Or.inl ⟨by rfl, ?_⟩) hHeld ?_
  rotate_left 1
  · (intro w hSw; (try dsimp only at hSw); go_simp <;> with_reducible rfl)
  try simp only [Act.put, List.setIfInBounds_toArray, List.set_cons_zero, List.set_cons_succ, List.getElem_toArray, List.getElem_cons_succ, List.getElem_cons_zero]
  refine wpAnyH_take (i := 1) (v := ?_) rfl (by kernel_rfl) (by kernel_rfl) (by kernel_rfl) (fun _ _ _ h => h) (Or.inl ⟨by rfl, ?_⟩) hHeld ?_
  rotate_left 1
  · (intro w hSw; (try dsimp only at hSw); go_simp <;> with_reducible rfl)
  try simp only [Act.put, List.setIfInBounds_toArray, List.set_cons_zero, List.set_cons_succ, List.getElem_toArray, List.getElem_cons_succ, List.getElem_cons_zero]
  refine wpAnyH_take (i := 2) (v := ?_) rfl (by kernel_rfl) (by kernel_rfl) (by kernel_rfl) (fun _ _ _ h => h) (Or.inl ⟨by rfl, ?_⟩) hHeld ?_
  rotate_left 1
  · (intro w hSw; (try dsimp only at hSw); go_simp <;> with_reducible rfl)
  try simp only [Act.put, List.setIfInBounds_toArray, List.set_cons_zero, List.set_cons_succ, List.getElem_toArray, List.getElem_cons_succ, List.getElem_cons_zero]
  refine wpAnyH_take (i := 3) (v := ?_) rfl (by kernel_rfl) (by kernel_rfl) (by kernel_rfl) (fun _ _ _ h => h) (Or.inl ⟨by rfl, ?_⟩) hHeld ?_
  rotate_left 1
  · (intro w hSw; (try dsimp only at hSw); go_simp <;> with_reducible rfl)
  try simp only [Act.put, List.setIfInBounds_toArray, List.set_cons_zero, List.set_cons_succ, List.getElem_toArray, List.getElem_cons_succ, List.getElem_cons_zero]
  refine wpAnyH_take (i := 5) (v := ?_) rfl (by kernel_rfl) (by kernel_rfl) (by kernel_rfl) (fun _ _ _ h => h) (Or.inl ⟨by rfl, ?_⟩) hHeld ?_
  rotate_left 1
  · (intro w hSw; (try dsimp only at hSw); go_simp <;> with_reducible rfl)
  try simp only [Act.put, List.setIfInBounds_toArray, List.set_cons_zero, List.set_cons_succ, List.getElem_toArray, List.getElem_cons_succ, List.getElem_cons_zero]
  refine wpAnyH_take (i := 6) (v := ?_) rfl (by kernel_rfl) (by kernel_rfl) (by kernel_rfl) (fun _ _ _ h => h) (Or.inl ⟨by rfl, ?_⟩) hHeld ?_
  rotate_left 1
  · (intro w hSw; (try dsimp only at hSw); go_simp <;> with_reducible rfl)
  try simp only [Act.put, List.setIfInBounds_toArray, List.set_cons_zero, List.set_cons_succ, List.getElem_toArray, List.getElem_cons_succ, List.getElem_cons_zero]
  refine wpAnyH_ready (rs := [4]) (by kernel_rfl) (by simp) ?_
  refine AllReadyH.cons rfl (fun K hK => ?_) AllReadyH.nil
  clear hHeld
  have c1 := HC1.out
  go_simp
  refine hK.out _ _ ((HBB10.out.drew.cell 2 rfl)) (fun hHeld => ?_)
  clear hK K
  try simp only [Act.put, List.setIfInBounds_toArray, List.set_cons_zero, List.set_cons_succ, List.getElem_toArray, List.getElem_cons_succ, List.getElem_cons_zero]
  refine wpAnyH_take (i := 7) (v := ?_) rfl (by kernel_rfl) (by kernel_rfl) (by kernel_rfl) (fun _ _ _ h => h) (Or.inl ⟨by rfl, ?_⟩) hHeld ?_
  rotate_left 1
  · (intro w hSw; (try dsimp only at hSw); go_simp <;> with_reducible rfl)
  try simp only [Act.put, List.setIfInBounds_toArray, List.set_cons_zero, List.set_cons_succ, List.getElem_toArray, List.getElem_cons_succ, List.getElem_cons_zero]
  refine wpAnyH_take (i := 8) (v := ?_) rfl (by kernel_rfl) (by kernel_rfl) (by kernel_rfl) (fun _ _ _ h => h) (Or.inl ⟨by rfl, ?_⟩) hHeld ?_
  rotate_left 1
  · (intro w hSw; (try dsimp only at hSw); go_simp <;> with_reducible rfl)
  try simp only [Act.put, List.setIfInBounds_toArray, List.set_cons_zero, List.set_cons_succ, List.getElem_toArray, List.getElem_cons_succ, List.getElem_cons_zero]
  refine wpAnyH_take (i := 9) (v := ?_) rfl (by kernel_rfl) (by kernel_rfl) (by kernel_rfl) (fun _ _ _ h => h) (Or.inl ⟨by rfl, ?_⟩) hHeld ?_
  rotate_left 1
  · (intro w hSw; (try dsimp only at hSw); go_simp <;> with_reducible rfl)
  try simp only [Act.put, List.setIfInBounds_toArray, List.set_cons_zero, List.set_cons_succ, List.getElem_toArray, List.getElem_cons_succ, List.getElem_cons_zero]
  refine wpAnyH_ready (rs := [10]) (by kernel_rfl) (by simp) ?_
  refine AllReadyH.cons rfl (fun K hK => ?_) AllReadyH.nil
  clear hHeld
  have c1 := HC1.out
  have y1 := HY1.out
  go_simp
  refine hK.out _ _ (((HBB10.out.drew.other (p := ⟨v, 1, none⟩) hvb (.int .i64 mx)).cell 2 rfl)) (fun hHeld => ?_)
  clear hK K
  try simp only [Act.put, List.setIfInBounds_toArray, List.set_cons_zero, List.set_cons_succ, List.getElem_toArray, List.getElem_cons_succ, List.getElem_cons_zero]
  refine wpAnyH_done (by kernel_rfl) ?_ _
  clear hHeld
  go_wp2_with fail
  go_ret2
  have B11 := HB10.out.drew.set' 1 (.int .i64 mx) (ds := #[.slice uo (M.length + 1) uc, .int .i64 mx]) rfl
  have hvB : B ≤ v := HW.out.lo
  have F1 : Fr (fun k => B ≤ k) w w9 := ((HF5.out.trans HF9.out).mono (fun _ _ h => h.elim)).step HFF9.out (fun k _ hk => HAB.out k hk)
  have F2 : Fr (fun k => B ≤ k) w ((w9.setCell ⟨v, 0, none⟩ (.slice uo (M.length + 1) uc)).drew.setCell ⟨v, 1, none⟩ (.int .i64 mx)) := by
    have g1 : Fr (fun k => k = v) w9 ((w9.setCell ⟨v, 0, none⟩ (.slice uo (M.length + 1) uc)).drew.setCell ⟨v, 1, none⟩ (.int .i64 mx)) := (((Fr.refl _ w9).set1 0 _).drew).set1 1 _
    exact F1.step g1 (fun k _ hk => by rw [hk]; exact hvB)
  refine ⟨rfl, ⟨⟨_, mx, B11, ?_, hva.out, hm0, hm1⟩, ?_, hvB⟩, F2⟩
  · have := row_keep hvr.out (((Fr.refl (fun k => k = v) w9).set1 0 (.slice uo (M.length + 1) uc)).drew.set1 1 (.int .i64 mx)) (fun k hk e => VN k hk e)
    exact this
  · intro y hy
    rcases List.mem_append.1 hy with h | h
    · exact HW.out.keys y h
    · simp at h; subst h; exact ⟨h1, h2⟩
end Go.Proofs.Ytclaggjlacinlaa
