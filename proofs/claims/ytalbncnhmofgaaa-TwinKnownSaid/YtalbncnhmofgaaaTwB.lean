/-
  TWINS (ch 11): Unwrap. Conditions: counts from 0 to 2^59.
-/
import Derived.Test.YtalbncnhmofgaaaTwA
namespace Go.Proofs.Ytalbncnhmofgaaa
open Go.RowKit Go.ChangeShapes Go.WideShapes Go.Deep

set_option linter.unusedSimpArgs false
theorem Fr.intoNew {S : Nat → Prop} {a w w' : World} {b : Nat} (h : Fr S a w) (f : Fr (· = b) w w') (hb : a.heap.size ≤ b) : Fr S a w' := h.step f (fun i hi e => by have : i = b := e; omega)
def AB (E : Int → Option HE) (k : Int) : Option (Int × List Int) := (E k).map fun e => (e.life, e.L)
def nextH (h : Option (Int × List Int)) (b c : Int) : Int × List Int :=
  match h with
  | none => (b, stepF [] c)
  | some (l, L) => if l < b then (b, stepF [] c) else if l = b then (l, stepF L c) else (l, L)
def freshH (h : Option (Int × List Int)) (b c : Int) : Bool :=
  match h with
  | none => isF [] c
  | some (l, L) => if l < b then isF [] c else if l = b then isF L c else false
def incS (s : TS) (l : Nat) : TS := if l = 0 then { s with c0 := s.c0 + 1 } else if l = 1 then { s with c1 := s.c1 + 1 } else { s with c2 := s.c2 + 1 }
def OF.ok (o : OF) : Prop := o.er = 0 → okF o.a o.b o.c = true ∧ o.bs.length ≤ 512
theorem zf_ok {e : Int} (h : e ≠ 0) : (zf e).ok := fun h' => absurd h' h
theorem op3_ok (a b c : Int) (xs : List Int) : (op3 a b c xs).ok := by
  have hm := @oct_most xs 512
  unfold op3
  generalize octR xs 512 = r at *
  by_cases h4 : r.2.1 ≠ 0
  · rw [if_pos h4]; exact zf_ok h4
  · rw [if_neg h4]
    by_cases h5 : 0 < (xs.drop r.2.2).length ∨ okF a b c = false
    · rw [if_pos h5]; exact zf_ok (by decide)
    · rw [if_neg h5]
      intro _
      simp only [not_or, Bool.not_eq_false] at h5
      exact ⟨h5.2, hm (by omega)⟩
theorem op2_ok (a b : Int) (xs : List Int) : (op2 a b xs).ok := by
  unfold op2
  generalize numR xs = r
  by_cases h : r.2.2 ≠ 0
  · rw [if_pos h]; exact zf_ok h
  · rw [if_neg h]; exact op3_ok _ _ _ _
theorem op1_ok (a : Int) (xs : List Int) : (op1 a xs).ok := by
  unfold op1
  generalize numR xs = r
  by_cases h : r.2.2 ≠ 0
  · rw [if_pos h]; exact zf_ok h
  · rw [if_neg h]; exact op2_ok _ _ _
theorem op0_ok (xs : List Int) : (op0 xs).ok := by
  unfold op0
  generalize numR xs = r
  by_cases h : r.2.2 ≠ 0
  · rw [if_pos h]; exact zf_ok h
  · rw [if_neg h]; exact op1_ok _ _
theorem openF_ok {zs : List Int} (h : (openF zs).er = 0) : okF (openF zs).a (openF zs).b (openF zs).c = true ∧ (openF zs).bs.length ≤ 512 := by
  have : (openF zs).ok := by
    unfold openF
    generalize openR zs = r
    by_cases h : r.2 ≠ 0
    · rw [if_pos h]; exact zf_ok h
    · rw [if_neg h]; exact op0_ok _
  exact this h
section
variable {α : Type} [DecidableEq α] {P : Program} {ops : Array Oper} {o : Oper} {f : Act} {S : World → Prop}
theorem yields_lookup1 (hgd : Region.wanted o (yielded ops f.tmps) = true) (m x : Operand) (t : TypeId) (hop : o.op = Op.lookup t m x false) {kt e : TypeId} {κ : α → Value} (K : KeyOk P kt κ) (ht : P.underlying t = some (.map kt e)) {z : Value} (hz : ∀ W, (zeroValue e).run P W = .ok z W) {b : Nat} {M : List (α × Value)}
    (hS : ∀ W, S W → MapIs W b κ M) (a : α) (hm : f.eval m = .map (some b)) (hx : f.eval x = κ a) (u : Value) (hu : (look M a).getD z = u) : YieldsIf P ops S o u f :=
  .inl ⟨hgd, fun w hw => by
    have hrun := run_lookup_map K ht (hz w) (hS w hw) a false
    rw [← hu]
    simp [execOp, hop, hm, hx, hrun, Result.andThen]⟩
end
section
variable {P : Program} {ops : Array Oper} {o : Oper} {a : Act} {w : World} {Q : Exit → Act → World → Prop}
theorem step_boxed {K : Act → World → Prop} {E : Prop} (hgd : o.guard = none) (ty : TypeId) (x : Operand) (ho : o.op = .box ty x) (cs : Array Value) (hx : a.eval x = .agg cs)
    (h : ∀ b w', b = w.heap.size → Blk w' b cs ty → Fr (fun _ => False) w w' → w'.heap.size = b + 1 → K (a.put o.dst (.pointer (some ⟨b, 0, none⟩))) w') : if Region.wanted o (yielded ops a.tmps) = true then Oper.wp P o a w K Q else E := by
  have hw : Region.wanted o (yielded ops a.tmps) = true := by simp [Region.wanted, hgd]
  rw [if_pos hw]
  have hrun : (Instr.box ty (.agg cs)).run P w = .ok (.pointer (some ⟨w.heap.size, 0, none⟩)) (w.alloc (.cells cs ty)) := by
    simp [Instr.box, newVar, newRow, Value.cells]
  unfold Oper.wp execOp
  simp [ho, hx, hrun, Result.andThen]
  exact h _ _ rfl (Blk.new _ _ _) ((Fr.refl _ _).alloc _) (by simp)
end
theorem zeroHeard (W : World) : (zeroValue 91).run Try.prog W = .ok (.pointer none) W := by kernel_rfl
theorem MapIs.ne {w : World} {b c : Nat} {M : List (Int × Value)} (h : MapIs w b (Value.int .i64) M) {cs : Array Value} {t : TypeId} (k : Blk w c cs t) : c ≠ b := fun e => (e ▸ h).no k
/-- A sender anew. -/
theorem TW.fresh {w W W' : World} {p m : Nat} {s : TS} {E : Int → Option HE} (h : TW w p m s E) {M : List (Int × Value)} (hL : ∀ k, look M k = (E k).map fun e => .pointer (some ⟨e.h, 0, none⟩)) (f : Fr (fun _ => False) w W) {hh q : Nat} {a b : Int} (B : Blk W hh #[.int .i64 b, .pointer (some ⟨q, 0, none⟩)] 94) (V : SV W q []) (h1 : w.heap.size ≤ hh) (h2 : w.heap.size ≤ q)
    (hM : MapIs W' m (Value.int .i64) (put M a (.pointer (some ⟨hh, 0, none⟩)))) (g : Fr (· = m) W W') : TW W' p m s (fun k => if k = a then some ⟨hh, q, b, []⟩ else E k) := by
  have hWm := h.live m (.inr (.inl rfl))
  have hk := h.keep0 f
  have kB : Blk W' hh #[.int .i64 b, .pointer (some ⟨q, 0, none⟩)] 94 := B.keep g (by omega)
  have kV : SV W' q [] := V.keep g (by omega)
  refine ⟨hk.blk.keep g hk.pm, ⟨_, hM, fun k => ?_⟩, fun k e he => ?_, fun k e k' e' he he' hne => ?_⟩
  · rw [look_put]
    by_cases hka : k = a
    · subst hka; simp
    · rw [if_neg (fun e => hka e.symm), if_neg hka, hL]
  · by_cases hka : k = a
    · simp only [if_pos hka, Option.some.injEq] at he
      subst he
      exact ⟨kB, kV⟩
    · simp only [if_neg hka] at he
      obtain ⟨g1, g2⟩ := hk.ent k e he
      obtain ⟨M', hm', _⟩ := hk.map
      exact ⟨g1.keep g (hm'.ne g1), g2.keep g (fun e' => by obtain ⟨_, _, g3, _⟩ := g2; exact hm'.ne g3 e')⟩
  · by_cases hka : k = a
    · by_cases hka' : k' = a
      · exact absurd (hka.trans hka'.symm) hne
      · simp only [if_pos hka, Option.some.injEq] at he
        simp only [if_neg hka'] at he'
        subst he
        have l1 := h.live _ (.inr (.inr ⟨k', e', he', .inl rfl⟩))
        have l2 := h.live _ (.inr (.inr ⟨k', e', he', .inr rfl⟩))
        exact ⟨by simp only; omega, by simp only; omega⟩
    · simp only [if_neg hka] at he
      by_cases hka' : k' = a
      · simp only [if_pos hka', Option.some.injEq] at he'
        subst he'
        have l1 := h.live _ (.inr (.inr ⟨k, e, he, .inl rfl⟩))
        have l2 := h.live _ (.inr (.inr ⟨k, e, he, .inr rfl⟩))
        exact ⟨by simp only; omega, by simp only; omega⟩
      · simp only [if_neg hka'] at he'
        exact h.sep k e k' e' he he' hne
/-- More is seen of a sender. -/
theorem TW.seen {w w' : World} {p m : Nat} {s : TS} {E : Int → Option HE} {a : Int} {e : HE} (h : TW w p m s E) (he : E a = some e) {L' : List Int} (f : Fr (· = e.q) w w') (V : SV w' e.q L') : TW w' p m s (fun k => if k = a then some { e with L := L' } else E k) := by
  obtain ⟨e1, e2⟩ := h.ent a e he
  obtain ⟨_, _, sb, _⟩ := id e2
  obtain ⟨M, hM, hL⟩ := h.map
  refine ⟨h.blk.keep f (fun e' => absurd ((e' ▸ h.blk).type sb) (by decide)), ⟨M, hM.keep f (fun e' => (hM.ne sb) e'.symm), fun k => ?_⟩, fun k d hd => ?_, fun k d k' d' hd hd' hne => ?_⟩
  · by_cases hka : k = a
    · subst hka; rw [hL]; simp [he]
    · simp only [if_neg hka]; exact hL k
  · by_cases hka : k = a
    · simp only [if_pos hka, Option.some.injEq] at hd
      subst hd
      exact ⟨e1.keep f (fun e' => absurd ((e' ▸ e1).type sb) (by decide)), V⟩
    · simp only [if_neg hka] at hd
      obtain ⟨d1, d2⟩ := h.ent k d hd
      exact ⟨d1.keep f (fun e' => absurd ((e' ▸ d1).type sb) (by decide)), d2.keep f (h.sep k d a e hd he hka).2⟩
  · have key : ∀ k d, (if k = a then some { e with L := L' } else E k) = some d → ∃ d0, E k = some d0 ∧ d0.h = d.h ∧ d0.q = d.q := fun k d hd => by
      by_cases hka : k = a
      · simp only [if_pos hka, Option.some.injEq] at hd
        subst hd
        exact ⟨e, hka ▸ he, rfl, rfl⟩
      · simp only [if_neg hka] at hd
        exact ⟨d, hd, rfl, rfl⟩
    obtain ⟨x, x1, x2, x3⟩ := key k d hd
    obtain ⟨y, y1, y2, y3⟩ := key k' d' hd'
    have := h.sep k x k' y x1 y1 hne
    rw [← x2, ← x3, ← y2, ← y3]; exact this
theorem row_no {w : World} {v : Value} {n : Nat} {xs : List Value} {b : Nat} {L : List Int} (h : w.ownsRow 0 5 1 v n xs) (V : SV w b L) {k : Nat} (hk : k ∈ footOf v) (e : k = b) : False := by
  obtain ⟨cs, hcs⟩ := row_type h hk
  obtain ⟨_, _, g, _⟩ := V
  subst e
  exact absurd (hcs.type g) (by decide)
def IsUnw (w : World) (p m : Nat) (s' : TS) (E : Int → Option HE) (o : OF) (e : Ending) (w' : World) : Prop :=
  ∃ u E', e = .returned (.tuple #[u, .bool (freshH (AB E o.a) o.b o.c), .int .i64 0]) ∧ w'.ownsRow 0 5 1 u o.bs.length (o.bs.map (.int .u8)) ∧ Above w.heap.size (footOf u) ∧ TW w' p m s' E' ∧ (∀ k, AB E' k = if k = o.a then some (nextH (AB E o.a) o.b o.c) else AB E k) ∧ (∀ b, tfp p m E' b → tfp p m E b ∨ w.heap.size ≤ b) ∧ Fr (tfp p m E) w w'
set_option maxRecDepth 100000 in
set_option maxHeartbeats 4000000 in
theorem unwrap_arg {p m : Nat} (s : TS) (E : Int → Option HE) (l : Int) (u : Value) (w : World) (h : TW w p m s E) (hc : chkR s.n l ≠ 0) :
    Calls Try.prog 20 #[.pointer (some ⟨p, 0, none⟩), .int .i64 l, u] w fun e w' => e = .returned (.tuple #[.slice none 0 0, .bool false, .int .i64 (chkR s.n l)]) ∧ w = w' := by
  have HC := hid (check_blk l w (n := s.n) (h.blk.cell 5 rfl))
  generalize chkR s.n l = er at *
  have d1 : (er != 0) = true := by simp [hc]
  clear h hc
  go_enter Try.func20, Try.ntmps20
  go_wp2_with fail
  with_reducible refine HC.out.mono ?_
  rintro e w1 ⟨rfl, rfl⟩
  go_wp2_with fail
  go_ret3
  exact ⟨rfl, rfl⟩
set_option maxRecDepth 100000 in
set_option maxHeartbeats 4000000 in
theorem unwrap_syn {p m : Nat} (s : TS) (E : Int → Option HE) (l : Int) (v : Value) (zs : List Int) (w : World) (h : TW w p m s E) (hv : Vw .u8 w v zs) (hb : AllB zs) (hl : zs.length ≤ 140737488355328) (hc : chkR s.n l = 0) (he : (openF zs).er ≠ 0) :
    Calls Try.prog 20 #[.pointer (some ⟨p, 0, none⟩), .int .i64 l, v] w fun e w' => e = .returned (.tuple #[.slice none 0 0, .bool false, .int .i64 (openF zs).er]) ∧ Fr (fun _ => False) w w' := by
  have HC := hid (check_blk l w (n := s.n) (h.blk.cell 5 rfl))
  rw [hc] at HC
  have HO := hid (open_tw v zs w hv hb hl)
  generalize openF zs = o at *
  obtain ⟨oa, ob, oc, obs, oer⟩ := o
  have d1 : (oer != 0) = true := by simp at he; simp [he]
  clear h hc he hv hb hl
  go_enter Try.func20, Try.ntmps20
  go_wp2_with fail
  with_reducible refine HC.out.mono ?_
  rintro e w1 ⟨rfl, rfl⟩
  go_wp2_with fail
  with_reducible refine HO.out.mono ?_
  rintro e w2 ⟨u, rfl, hr, f2, ha⟩
  obtain ⟨ao, cap, rfl⟩ := row_shape hr
  have HF2 := hid f2
  clear f2 hr ha
  go_wp2_with (refine wpList_new rfl 24 rfl #[.int .i64 0, .int .i64 0, .int .i64 0, .slice none 0 0] zeroFrame ?_)
  intro y w3 hy B3 f3 z3
  have HF3 := hid (HF2.out.trans f3)
  have hyw : w.heap.size ≤ y := by have := HF2.out.size; omega
  clear hy f3 z3 HF2
  go_wp2_with (refine wpList_store_part rfl 24 _ _ rfl aggFrame y 0 rfl B3 (.agg #[.int .i64 oa, .int .i64 ob, .int .i64 oc, .slice ao obs.length cap]) rfl rfl (one_fr oa ob oc ao obs.length cap) (by decide) #[.int .i64 oa, .int .i64 ob, .int .i64 oc, .slice ao obs.length cap] rfl ?_)
  intro w4 B4 f4 z4
  have HF4 := hid (HF3.out.intoNew f4 hyw)
  clear B4 f4 z4 B3 HF3
  go_wp2_with fail
  go_ret3
  exact ⟨rfl, HF4.out⟩
set_option maxRecDepth 100000 in
set_option maxHeartbeats 16000000 in
theorem unwrap_ok {p m : Nat} (s : TS) (E : Int → Option HE) (l : Nat) (v : Value) (zs : List Int) (w : World) (h : TW w p m s E) (hv : Vw .u8 w v zs) (hb : AllB zs) (hl : zs.length ≤ 140737488355328) (hc : chkR s.n (l : Int) = 0) (he : (openF zs).er = 0) (hn : 1 ≤ s.n) (hn3 : s.n ≤ 3) (hl3 : l = 0 ∨ l = 1 ∨ l = 2) (hk0 : 0 ≤ s.cn l) (hk1 : s.cn l ≤ 576460752303423488) (hok : (incS s l).cok) :
    Calls Try.prog 20 #[.pointer (some ⟨p, 0, none⟩), .int .i64 (l : Int), v] w (IsUnw w p m (lookF (incS s l)) E (openF zs)) := by
  have HC := hid (check_blk (l : Int) w (n := s.n) (h.blk.cell 5 rfl))
  rw [hc] at HC
  have HO := hid (open_tw v zs w hv hb hl)
  have hoc := (okF_iff _ _ _).1 (openF_ok he).1
  generalize openF zs = o at *
  obtain ⟨oa, ob, oc, obs, oer⟩ := o
  have he' : oer = 0 := he
  subst he'
  have HT := hid h
  have HLK := hid (fun W (hB : Blk W p ((incS s l).cs m) 72) => look_tw (incS s l) W hB (by unfold incS; split <;> (try split) <;> exact hn) (by unfold incS; split <;> (try split) <;> exact hn3) hok)
  have HFH := hid (fun q L W (hS : SV W q L) => fresh_any q L oc W hS (by simp at hoc; omega) (by simp at hoc; omega))
  have HER : Hid (erN oc = 0) := hid (by simp at hoc; unfold erN; rw [if_neg]; omega)
  obtain ⟨cn1, hcn1⟩ : ∃ c, c = s.cn l + 1 := ⟨_, rfl⟩
  have hw1 : IntKind.i64.wrap (s.cn l + 1) = cn1 := by rw [hcn1]; exact IntWalk.i64_in _ (by omega)
  have hw2 : wrap64 (s.cn l + 1) = cn1 := by rw [hcn1]; exact w64d (by omega) (by omega)
  have HSET : Hid ((s.cs m).setIfInBounds (6 + 2 * l) (.int .i64 cn1) = (incS s l).cs m) := hid (by rw [hcn1]; rcases hl3 with rfl | rfl | rfl <;> rfl)
  have HGET : Hid ((s.cs m)[6 + 2 * l]? = some (.int .i64 (s.cn l))) := hid (by rcases hl3 with rfl | rfl | rfl <;> rfl)
  have hpw := h.live p (.inl rfl)
  generalize hs6 : lookF (incS s l) = s6 at *
  clear h hc he hv hb hl hn hn3 hok hcn1 hs6 hk0 hk1 hoc
  go_enter Try.func20, Try.ntmps20
  go_wp2_with fail
  with_reducible refine HC.out.mono ?_
  rintro e w1 ⟨rfl, rfl⟩
  go_wp2_with fail
  with_reducible refine HO.out.mono ?_
  rintro e w2 ⟨u, rfl, hr, f2, ha⟩
  obtain ⟨ao, cap, rfl⟩ := row_shape hr
  have HF2 := hid f2
  have HR2 := hid hr
  have HA2 := hid ha
  clear f2 hr ha HC HO
  obtain ⟨nb, hnb⟩ : ∃ nb, nb = obs.length := ⟨_, rfl⟩
  have HNB := hid hnb
  simp only at HR2 HA2 ⊢
  rw [← hnb] at HR2 HA2 ⊢
  clear hnb
  go_wp2_with (refine wpList_new rfl 24 rfl #[.int .i64 0, .int .i64 0, .int .i64 0, .slice none 0 0] zeroFrame ?_)
  intro y w3 hy B3 f3 z3
  have HF3 := hid (HF2.out.trans f3)
  have hyw : w.heap.size ≤ y := by have := HF2.out.size; omega
  have hyf : Above w.heap.size (footOf (.slice ao nb cap)) ∧ ∀ k, k ∈ footOf (.slice ao nb cap) → k ≠ y := ⟨HA2.out, fun k hk e => by have := row_live HR2.out k hk; omega⟩
  have HR3 := hid (row_keep HR2.out f3 (fun _ _ h => h))
  clear hy f3 z3 HF2 HR2 HA2
  go_wp2_with (refine wpList_store_part rfl 24 _ _ rfl aggFrame y 0 rfl B3 (.agg #[.int .i64 oa, .int .i64 ob, .int .i64 oc, .slice ao nb cap]) rfl rfl (one_fr oa ob oc ao nb cap) (by decide) #[.int .i64 oa, .int .i64 ob, .int .i64 oc, .slice ao nb cap] rfl ?_)
  intro w4 B4 f4 z4
  have HF4 := hid (HF3.out.intoNew f4 hyw)
  have HY4 := hid B4
  have HR4 := hid (row_keep HR3.out f4 (fun k hk e => hyf.2 k hk e))
  have HA4 := hid hyf.1
  clear B4 f4 z4 B3 HF3 HR3 hyf
  have HT4 := hid (HT.out.keep0 HF4.out)
  have hpy : y ≠ p := by omega
  go_wp2_with fail
  have HBD := hid (HT4.out.blk.keep ((Fr.refl (fun _ => False) w4).drew) (fun h => h))
  have HFD : Hid (Fr (fun _ => False) w w4.drew) := hid HF4.out.drew
  have HYD := hid (HY4.out.keep ((Fr.refl (fun _ => False) w4).drew) (fun h => h))
  have HRD := hid (row_keep HR4.out ((Fr.refl (fun _ => False) w4).drew) (fun _ _ h => h))
  have HTD := hid (HT4.out.keep0 ((Fr.refl (fun _ => False) w4).drew))
  refine wp_region_held_drew (S := fun _ => True) (by kernel_rfl) (trivial) (fun hHeld => ?_)
  refine wpAnyH_take (i := 0) (v := ?_) rfl (by kernel_rfl) (by kernel_rfl) (by kernel_rfl) (fun _ _ _ h => h) (Or.inl ⟨by rfl, ?_⟩) hHeld ?_
  rotate_left 1
  · (intro w hSw; (try dsimp only at hSw); go_simp <;> with_reducible rfl)
  try simp only [Act.put, List.setIfInBounds_toArray, List.set_cons_zero, List.set_cons_succ, List.getElem_toArray, List.getElem_cons_succ, List.getElem_cons_zero]
  refine wpAnyH_take (i := 1) (v := ?_) rfl (by kernel_rfl) (by kernel_rfl) (by kernel_rfl) (fun _ _ _ h => h) (Or.inl ⟨by rfl, ?_⟩) hHeld ?_
  rotate_left 1
  · (intro w hSw; (try dsimp only at hSw); go_simp <;> with_reducible rfl)
  try simp only [Act.put, List.setIfInBounds_toArray, List.set_cons_zero, List.set_cons_succ, List.getElem_toArray, List.getElem_cons_succ, List.getElem_cons_zero]
  refine wpAnyH_take (i := 2) (v := ?_) rfl (by kernel_rfl) (by kernel_rfl) (by kernel_rfl) (fun _ _ _ h => h) (Or.inl ⟨by rfl, ?_⟩) hHeld ?_
  rotate_left 1
  · (intro w hSw; (try dsimp only at hSw); go_simp <;> with_reducible rfl)
  try simp only [Act.put, List.setIfInBounds_toArray, List.set_cons_zero, List.set_cons_succ, List.getElem_toArray, List.getElem_cons_succ, List.getElem_cons_zero]
  refine wpAnyH_take (i := 3) (v := ?_) rfl (by kernel_rfl) (by kernel_rfl) (by kernel_rfl) (fun _ _ _ h => h) (Or.inl ⟨by rfl, ?_⟩) hHeld ?_
  rotate_left 1
  · (intro w hSw; (try dsimp only at hSw); go_simp <;> with_reducible rfl)
  try simp only [Act.put, List.setIfInBounds_toArray, List.set_cons_zero, List.set_cons_succ, List.getElem_toArray, List.getElem_cons_succ, List.getElem_cons_zero]
  refine wpAnyH_take (i := 4) (v := .pointer (some ⟨p, 6 + 2 * l, none⟩)) rfl (by kernel_rfl) (by kernel_rfl) (by kernel_rfl) (fun _ _ _ h => h) (Or.inl ⟨by rfl, by intro w hSw; (try dsimp only at hSw); rcases hl3 with rfl | rfl | rfl <;> (go_simp <;> rfl)⟩) hHeld ?_
  try simp only [Act.put, List.setIfInBounds_toArray, List.set_cons_zero, List.set_cons_succ, List.getElem_toArray, List.getElem_cons_succ, List.getElem_cons_zero]
  refine wpAnyH_take (i := 5) (v := ?_) rfl (by kernel_rfl) (by kernel_rfl) (by kernel_rfl) (fun _ _ _ h => h) (Or.inl ⟨by rfl, ?_⟩) hHeld ?_
  rotate_left 1
  · (intro w hSw; (try dsimp only at hSw); go_simp <;> with_reducible rfl)
  try simp only [Act.put, List.setIfInBounds_toArray, List.set_cons_zero, List.set_cons_succ, List.getElem_toArray, List.getElem_cons_succ, List.getElem_cons_zero]
  refine wpAnyH_take (i := 8) (v := ?_) rfl (by kernel_rfl) (by kernel_rfl) (by kernel_rfl) (fun _ _ _ h => h) (Or.inl ⟨by rfl, ?_⟩) hHeld ?_
  rotate_left 1
  · (intro w hSw; (try dsimp only at hSw); go_simp <;> with_reducible rfl)
  try simp only [Act.put, List.setIfInBounds_toArray, List.set_cons_zero, List.set_cons_succ, List.getElem_toArray, List.getElem_cons_succ, List.getElem_cons_zero]
  refine wpAnyH_take (i := 9) (v := ?_) rfl (by kernel_rfl) (by kernel_rfl) (by kernel_rfl) (fun _ _ _ h => h) (Or.inl ⟨by rfl, ?_⟩) hHeld ?_
  rotate_left 1
  · (intro w hSw; (try dsimp only at hSw); go_simp <;> with_reducible rfl)
  try simp only [Act.put, List.setIfInBounds_toArray, List.set_cons_zero, List.set_cons_succ, List.getElem_toArray, List.getElem_cons_succ, List.getElem_cons_zero]
  refine wpAnyH_ready (rs := [6]) (by kernel_rfl) (by simp) ?_
  refine AllReadyH.cons rfl (fun K hK => ?_) AllReadyH.nil
  clear hHeld
  have c4 : w4.drew.cell? ⟨p, 6 + 2 * l, none⟩ = some (.int .i64 (s.cn l)) := HBD.out.cell (6 + 2 * l) HGET.out
  go_simp
  clear c4
  refine hK.out _ _ (trivial) (fun hHeld => ?_)
  clear hK K
  try simp only [Act.put, List.setIfInBounds_toArray, List.set_cons_zero, List.set_cons_succ, List.getElem_toArray, List.getElem_cons_succ, List.getElem_cons_zero]
  refine wpAnyH_take (i := 7) (v := ?_) rfl (by kernel_rfl) (by kernel_rfl) (by kernel_rfl) (fun _ _ _ h => h) (Or.inl ⟨by rfl, ?_⟩) hHeld ?_
  rotate_left 1
  · (intro w hSw; (try dsimp only at hSw); go_simp <;> with_reducible rfl)
  try simp only [Act.put, List.setIfInBounds_toArray, List.set_cons_zero, List.set_cons_succ, List.getElem_toArray, List.getElem_cons_succ, List.getElem_cons_zero]
  refine wpAnyH_take (i := 10) (v := .pointer (some ⟨p, 6 + 2 * l, none⟩)) rfl (by kernel_rfl) (by kernel_rfl) (by kernel_rfl) (fun _ _ _ h => h) (Or.inl ⟨by rfl, by intro w hSw; (try dsimp only at hSw); rcases hl3 with rfl | rfl | rfl <;> (go_simp <;> rfl)⟩) hHeld ?_
  try simp only [Act.put, List.setIfInBounds_toArray, List.set_cons_zero, List.set_cons_succ, List.getElem_toArray, List.getElem_cons_succ, List.getElem_cons_zero]
  refine wpAnyH_take (i := 11) (v := ?_) rfl (by kernel_rfl) (by kernel_rfl) (by kernel_rfl) (fun _ _ _ h => h) (Or.inl ⟨by rfl, ?_⟩) hHeld ?_
  rotate_left 1
  · (intro w hSw; (try dsimp only at hSw); go_simp <;> with_reducible rfl)
  try simp only [Act.put, List.setIfInBounds_toArray, List.set_cons_zero, List.set_cons_succ, List.getElem_toArray, List.getElem_cons_succ, List.getElem_cons_zero]
  have HBE := hid (HBD.out.set' (6 + 2 * l) (.int .i64 cn1) HSET.out)
  refine wpAnyH_ready (rs := [12]) (by kernel_rfl) (by simp) ?_
  refine AllReadyH.cons rfl (fun K hK => ?_) AllReadyH.nil
  clear hHeld
  have c4 : w4.drew.cell? ⟨p, 6 + 2 * l, none⟩ = some (.int .i64 (s.cn l)) := HBD.out.cell (6 + 2 * l) HGET.out
  have f4 := HBD.out.free (6 + 2 * l)
  go_simp
  clear c4 f4
  refine hK.out _ _ (trivial) (fun hHeld => ?_)
  clear hK K
  try simp only [Act.put, List.setIfInBounds_toArray, List.set_cons_zero, List.set_cons_succ, List.getElem_toArray, List.getElem_cons_succ, List.getElem_cons_zero]
  refine wpAnyH_done (by kernel_rfl) ?_ _
  clear hHeld
  have HTI := hid (HTD.out.num ((Fr.refl (· = p) w4.drew).set1 (6 + 2 * l) (.int .i64 cn1)) HBE.out)
  have HFI : Hid (Fr (tfp p m E) w (w4.drew.setCell ⟨p, 6 + 2 * l, none⟩ (.int .i64 cn1))) := hid ((HFD.out.mono (fun _ _ h => h.elim)).step ((Fr.refl (· = p) w4.drew).set1 (6 + 2 * l) (.int .i64 cn1)) (fun i _ e => .inl e))
  have HYI := hid (HYD.out.keep ((Fr.refl (· = p) w4.drew).set1 (6 + 2 * l) (.int .i64 cn1)) hpy)
  have HRI := hid (row_keep HRD.out ((Fr.refl (· = p) w4.drew).set1 (6 + 2 * l) (.int .i64 cn1)) (fun k hk e => by have h1 := HA4.out k hk; have : k = p := e; omega))
  rw [show (w4.setCell ⟨p, 6 + 2 * l, none⟩ (.int .i64 cn1)).drew = w4.drew.setCell ⟨p, 6 + 2 * l, none⟩ (.int .i64 cn1) from rfl]
  generalize w4.drew.setCell ⟨p, 6 + 2 * l, none⟩ (.int .i64 cn1) = w5 at *
  clear HBD HFD HYD HRD HTD HBE HT4 HF4 HY4 HR4 hw1 hw2 HSET HGET
  go_wp2_with fail
  with_reducible refine (HLK.out _ HTI.out.blk).mono ?_
  rintro e w6 ⟨rfl, hb6, f6⟩
  have HT6 := hid (HTI.out.num f6 hb6)
  have HF6 := hid (HFI.out.step f6 (fun i _ e => .inl e))
  have HY6 := hid (HYI.out.keep f6 hpy)
  have HR6 := hid (row_keep HRI.out f6 (fun k hk e => by have h1 := HA4.out k hk; have : k = p := e; omega))
  clear hb6 f6 HTI HFI HYI HRI HLK
  have hlive := HT.out.live
  have hpm := HT.out.pm
  clear HT
  obtain ⟨M, hM, hL⟩ := HT6.out.map
  have HM := hid hM
  have HL := hid hL
  clear hM hL
  go_wp2_with fail
  have HTD := hid (HT6.out.keep0 ((Fr.refl (fun _ => False) w6).drew))
  have HFD := hid (HF6.out.trans ((Fr.refl (tfp p m E) w6).drew))
  have HYD := hid (HY6.out.keep ((Fr.refl (fun _ => False) w6).drew) (fun h => h))
  have HRD := hid (row_keep HR6.out ((Fr.refl (fun _ => False) w6).drew) (fun _ _ h => h))
  have HMD := hid (HM.out.keep ((Fr.refl (fun _ => False) w6).drew) (fun h => h))
  clear HT6 HF6 HY6 HR6 HM
  cases hE : E oa with
  | none =>
    have HE := hid hE
    have HLN : Hid (look M oa = none) := hid (by rw [HL.out, hE]; rfl)
    clear hE
    have HAB : Hid (AB E oa = none) := hid (by unfold AB; rw [HE.out]; rfl)
    refine wp_region_held_drew (S := fun W => W.cell? ⟨p, 12, none⟩ = some (.map (some m)) ∧ W.cell? ⟨y, 0, none⟩ = some (.int .i64 oa) ∧ MapIs W m (Value.int .i64) M) (by kernel_rfl) (⟨HTD.out.blk.cell 12 rfl, HYD.out.cell 0 rfl, HMD.out⟩) (fun hHeld => ?_)
    refine wpAnyH_take (i := 0) (v := ?_) rfl (by kernel_rfl) (by kernel_rfl) (by kernel_rfl) (fun _ _ _ h => h) (Or.inl ⟨by rfl, ?_⟩) hHeld ?_
    rotate_left 1
    · (intro w hSw; (try dsimp only at hSw); go_simp <;> with_reducible rfl)
    try simp only [Act.put, List.setIfInBounds_toArray, List.set_cons_zero, List.set_cons_succ, List.getElem_toArray, List.getElem_cons_succ, List.getElem_cons_zero]
    refine wpAnyH_take (i := 1) (v := ?_) rfl (by kernel_rfl) (by kernel_rfl) (by kernel_rfl) (fun _ _ _ h => h) (Or.inl ⟨by rfl, ?_⟩) hHeld ?_
    rotate_left 1
    · (intro w hSw; (try dsimp only at hSw); go_simp <;> with_reducible rfl)
    try simp only [Act.put, List.setIfInBounds_toArray, List.set_cons_zero, List.set_cons_succ, List.getElem_toArray, List.getElem_cons_succ, List.getElem_cons_zero]
    refine wpAnyH_take (i := 2) (v := ?_) rfl (by kernel_rfl) (by kernel_rfl) (by kernel_rfl) (fun _ _ _ h => h) (Or.inl ⟨by rfl, ?_⟩) hHeld ?_
    rotate_left 1
    · (intro w hSw; (try dsimp only at hSw); go_simp <;> with_reducible rfl)
    try simp only [Act.put, List.setIfInBounds_toArray, List.set_cons_zero, List.set_cons_succ, List.getElem_toArray, List.getElem_cons_succ, List.getElem_cons_zero]
    refine wpAnyH_take (i := 3) (v := ?_) rfl (by kernel_rfl) (by kernel_rfl) (by kernel_rfl) (fun _ _ _ h => h) (Or.inl ⟨by rfl, ?_⟩) hHeld ?_
    rotate_left 1
    · (intro w hSw; (try dsimp only at hSw); go_simp <;> with_reducible rfl)
    try simp only [Act.put, List.setIfInBounds_toArray, List.set_cons_zero, List.set_cons_succ, List.getElem_toArray, List.getElem_cons_succ, List.getElem_cons_zero]
    refine wpAnyH_take (i := 4) (v := ?_) rfl (by kernel_rfl) (by kernel_rfl) (by kernel_rfl) (fun _ _ _ h => h) (Or.inl ⟨by rfl, ?_⟩) hHeld ?_
    rotate_left 1
    · (intro w hSw; (try dsimp only at hSw); go_simp <;> with_reducible rfl)
    try simp only [Act.put, List.setIfInBounds_toArray, List.set_cons_zero, List.set_cons_succ, List.getElem_toArray, List.getElem_cons_succ, List.getElem_cons_zero]
    refine wpAnyH_take (i := 5) (v := ?_) rfl (by kernel_rfl) (by kernel_rfl) (by kernel_rfl) (fun _ _ _ h => h) (Or.inl ⟨by rfl, ?_⟩) hHeld ?_
    rotate_left 1
    · (intro w hSw; (try dsimp only at hSw); go_simp <;> with_reducible rfl)
    try simp only [Act.put, List.setIfInBounds_toArray, List.set_cons_zero, List.set_cons_succ, List.getElem_toArray, List.getElem_cons_succ, List.getElem_cons_zero]
    refine wpAnyH_take (i := 6) (v := .pointer none) rfl (by kernel_rfl) (by kernel_rfl) (by kernel_rfl) (fun _ _ _ h => h) (yields_lookup1 (by rfl) (.tmp 45) (.tmp 47) 70 (by rfl) (int_keyOk Try.underlying3) Try.underlying70 zeroHeard (fun W h => h.2.2) oa (by rfl) (by rfl) _ (by rw [HLN.out]; rfl)) hHeld ?_
    try simp only [Act.put, List.setIfInBounds_toArray, List.set_cons_zero, List.set_cons_succ, List.getElem_toArray, List.getElem_cons_succ, List.getElem_cons_zero]
    refine wpAnyH_take (i := 7) (v := ?_) rfl (by kernel_rfl) (by kernel_rfl) (by kernel_rfl) (fun _ _ _ h => h) (Or.inl ⟨by rfl, ?_⟩) hHeld ?_
    rotate_left 1
    · (intro w hSw; (try dsimp only at hSw); go_simp <;> with_reducible rfl)
    try simp only [Act.put, List.setIfInBounds_toArray, List.set_cons_zero, List.set_cons_succ, List.getElem_toArray, List.getElem_cons_succ, List.getElem_cons_zero]
    refine wpAnyH_done (by kernel_rfl) ?_ _
    clear hHeld
    go_wp2_with fail
    generalize w6.drew = wa0 at *
    have HTN := hid (HTD.out.keep0 ((Fr.refl (fun _ => False) wa0).drew))
    have HFN := hid (HFD.out.trans ((Fr.refl (tfp p m E) wa0).drew))
    have HYN := hid (HYD.out.keep ((Fr.refl (fun _ => False) wa0).drew) (fun h => h))
    have HRN := hid (row_keep HRD.out ((Fr.refl (fun _ => False) wa0).drew) (fun _ _ h => h))
    have HMN := hid (HMD.out.keep ((Fr.refl (fun _ => False) wa0).drew) (fun h => h))
    clear HTD HFD HYD HRD HMD
    have HTD := HTN
    have HFD := HFN
    have HYD := HYN
    have HRD := HRN
    have HMD := HMN
    clear HTN HFN HYN HRN HMN
    refine wp_region_held_drew (S := fun _ => True) (by kernel_rfl) (trivial) (fun hHeld => ?_)
    refine wpAnyH_take (i := 0) (v := ?_) rfl (by kernel_rfl) (by kernel_rfl) (by kernel_rfl) (fun _ _ _ h => h) (Or.inl ⟨by rfl, ?_⟩) hHeld ?_
    rotate_left 1
    · (intro w hSw; (try dsimp only at hSw); go_simp <;> with_reducible rfl)
    try simp only [Act.put, List.setIfInBounds_toArray, List.set_cons_zero, List.set_cons_succ, List.getElem_toArray, List.getElem_cons_succ, List.getElem_cons_zero]
    refine wpAnyH_take (i := 1) (v := ?_) rfl (by kernel_rfl) (by kernel_rfl) (by kernel_rfl) (fun _ _ _ h => h) (Or.inl ⟨by rfl, ?_⟩) hHeld ?_
    rotate_left 1
    · (intro w hSw; (try dsimp only at hSw); go_simp <;> with_reducible rfl)
    try simp only [Act.put, List.setIfInBounds_toArray, List.set_cons_zero, List.set_cons_succ, List.getElem_toArray, List.getElem_cons_succ, List.getElem_cons_zero]
    refine wpAnyH_take (i := 2) (v := ?_) rfl (by kernel_rfl) (by kernel_rfl) (by kernel_rfl) (fun _ _ _ h => h) (Or.inl ⟨by rfl, ?_⟩) hHeld ?_
    rotate_left 1
    · (intro w hSw; (try dsimp only at hSw); go_simp <;> with_reducible rfl)
    try simp only [Act.put, List.setIfInBounds_toArray, List.set_cons_zero, List.set_cons_succ, List.getElem_toArray, List.getElem_cons_succ, List.getElem_cons_zero]
    refine wpAnyH_take (i := 3) (v := undef) rfl (by kernel_rfl) (by kernel_rfl) (by kernel_rfl) (fun _ _ _ h => h) (Or.inr ⟨by rfl, rfl⟩) hHeld ?_
    try simp only [Act.put, List.setIfInBounds_toArray, List.set_cons_zero, List.set_cons_succ, List.getElem_toArray, List.getElem_cons_succ, List.getElem_cons_zero]
    refine wpAnyH_take (i := 4) (v := undef) rfl (by kernel_rfl) (by kernel_rfl) (by kernel_rfl) (fun _ _ _ h => h) (Or.inr ⟨by rfl, rfl⟩) hHeld ?_
    try simp only [Act.put, List.setIfInBounds_toArray, List.set_cons_zero, List.set_cons_succ, List.getElem_toArray, List.getElem_cons_succ, List.getElem_cons_zero]
    refine wpAnyH_take (i := 5) (v := undef) rfl (by kernel_rfl) (by kernel_rfl) (by kernel_rfl) (fun _ _ _ h => h) (Or.inr ⟨by rfl, rfl⟩) hHeld ?_
    try simp only [Act.put, List.setIfInBounds_toArray, List.set_cons_zero, List.set_cons_succ, List.getElem_toArray, List.getElem_cons_succ, List.getElem_cons_zero]
    refine wpAnyH_take (i := 6) (v := undef) rfl (by kernel_rfl) (by kernel_rfl) (by kernel_rfl) (fun _ _ _ h => h) (Or.inr ⟨by rfl, rfl⟩) hHeld ?_
    try simp only [Act.put, List.setIfInBounds_toArray, List.set_cons_zero, List.set_cons_succ, List.getElem_toArray, List.getElem_cons_succ, List.getElem_cons_zero]
    refine wpAnyH_take (i := 7) (v := undef) rfl (by kernel_rfl) (by kernel_rfl) (by kernel_rfl) (fun _ _ _ h => h) (Or.inr ⟨by rfl, rfl⟩) hHeld ?_
    try simp only [Act.put, List.setIfInBounds_toArray, List.set_cons_zero, List.set_cons_succ, List.getElem_toArray, List.getElem_cons_succ, List.getElem_cons_zero]
    refine wpAnyH_take (i := 8) (v := undef) rfl (by kernel_rfl) (by kernel_rfl) (by kernel_rfl) (fun _ _ _ h => h) (Or.inr ⟨by rfl, rfl⟩) hHeld ?_
    try simp only [Act.put, List.setIfInBounds_toArray, List.set_cons_zero, List.set_cons_succ, List.getElem_toArray, List.getElem_cons_succ, List.getElem_cons_zero]
    refine wpAnyH_take (i := 9) (v := undef) rfl (by kernel_rfl) (by kernel_rfl) (by kernel_rfl) (fun _ _ _ h => h) (Or.inr ⟨by rfl, rfl⟩) hHeld ?_
    try simp only [Act.put, List.setIfInBounds_toArray, List.set_cons_zero, List.set_cons_succ, List.getElem_toArray, List.getElem_cons_succ, List.getElem_cons_zero]
    refine wpAnyH_take (i := 10) (v := ?_) rfl (by kernel_rfl) (by kernel_rfl) (by kernel_rfl) (fun _ _ _ h => h) (Or.inl ⟨by rfl, ?_⟩) hHeld ?_
    rotate_left 1
    · (intro w hSw; (try dsimp only at hSw); go_simp <;> with_reducible rfl)
    try simp only [Act.put, List.setIfInBounds_toArray, List.set_cons_zero, List.set_cons_succ, List.getElem_toArray, List.getElem_cons_succ, List.getElem_cons_zero]
    refine wpAnyH_done (by kernel_rfl) ?_ _
    clear hHeld
    go_wp2_with fail
    skip
    generalize wa0.drew = wb0 at *
    have HTN := hid (HTD.out.keep0 ((Fr.refl (fun _ => False) wb0).drew))
    have HFN := hid (HFD.out.trans ((Fr.refl (tfp p m E) wb0).drew))
    have HYN := hid (HYD.out.keep ((Fr.refl (fun _ => False) wb0).drew) (fun h => h))
    have HRN := hid (row_keep HRD.out ((Fr.refl (fun _ => False) wb0).drew) (fun _ _ h => h))
    have HMN := hid (HMD.out.keep ((Fr.refl (fun _ => False) wb0).drew) (fun h => h))
    clear HTD HFD HYD HRD HMD
    have HTD := HTN
    have HFD := HFN
    have HYD := HYN
    have HRD := HRN
    have HMD := HMN
    clear HTN HFN HYN HRN HMN
    refine wp_region_held_drew (S := fun W => W.cell? ⟨y, 1, none⟩ = some (.int .i64 ob)) (by kernel_rfl) (HYD.out.cell 1 rfl) (fun hHeld => ?_)
    refine wpAnyH_take (i := 0) (v := ?_) rfl (by kernel_rfl) (by kernel_rfl) (by kernel_rfl) (fun _ _ _ h => h) (Or.inl ⟨by rfl, ?_⟩) hHeld ?_
    rotate_left 1
    · (intro w hSw; (try dsimp only at hSw); go_simp <;> with_reducible rfl)
    try simp only [Act.put, List.setIfInBounds_toArray, List.set_cons_zero, List.set_cons_succ, List.getElem_toArray, List.getElem_cons_succ, List.getElem_cons_zero]
    refine wpAnyH_take (i := 1) (v := ?_) rfl (by kernel_rfl) (by kernel_rfl) (by kernel_rfl) (fun _ _ _ h => h) (Or.inl ⟨by rfl, ?_⟩) hHeld ?_
    rotate_left 1
    · (intro w hSw; (try dsimp only at hSw); go_simp <;> with_reducible rfl)
    try simp only [Act.put, List.setIfInBounds_toArray, List.set_cons_zero, List.set_cons_succ, List.getElem_toArray, List.getElem_cons_succ, List.getElem_cons_zero]
    refine wpAnyH_ready (rs := [2]) (by kernel_rfl) (by simp) ?_
    refine AllReadyH.cons rfl (fun K hK => ?_) AllReadyH.nil
    clear hHeld
    go_simp
    go_at_call 58
    with_reducible refine (new_at _).mono ?_
    rintro e wa ⟨q, rfl, hq, Vq, fa⟩
    have HYA := hid (HYD.out.keep fa (fun h => h))
    have HVA := hid Vq
    have HFA := hid fa
    clear Vq fa
    refine hK.out _ _ (HYA.out.cell 1 rfl) (fun hHeld => ?_)
    clear hK K
    try simp only [Act.put, List.setIfInBounds_toArray, List.set_cons_zero, List.set_cons_succ, List.getElem_toArray, List.getElem_cons_succ, List.getElem_cons_zero]
    refine wpAnyH_take (i := 3) (v := ?_) rfl (by kernel_rfl) (by kernel_rfl) (by kernel_rfl) (fun _ _ _ h => h) (Or.inl ⟨by rfl, ?_⟩) hHeld ?_
    rotate_left 1
    · (intro w hSw; (try dsimp only at hSw); go_simp <;> with_reducible rfl)
    try simp only [Act.put, List.setIfInBounds_toArray, List.set_cons_zero, List.set_cons_succ, List.getElem_toArray, List.getElem_cons_succ, List.getElem_cons_zero]
    refine wpAnyH_ready (rs := [4]) (by kernel_rfl) (by simp) ?_
    refine AllReadyH.cons rfl (fun K hK => ?_) AllReadyH.nil
    clear hHeld
    refine step_boxed (by rfl) 94 (.tmp 63) (by rfl) #[.int .i64 ob, .pointer (some ⟨q, 0, none⟩)] (by rfl) ?_
    intro hh wb hhh Bh fb zb
    have hh1 : wb0.drew.heap.size ≤ hh := by have := HFA.out.size; omega
    have HFB := hid (HFA.out.trans fb)
    have HYB := hid (HYA.out.keep fb (fun h => h))
    have HVB := hid (HVA.out.keep fb (fun h => h))
    have HBB := hid Bh
    clear HFA HYA HVA fb hhh zb Bh
    refine hK.out _ _ (HYB.out.cell 1 rfl) (fun hHeld => ?_)
    clear hK K
    try simp only [Act.put, List.setIfInBounds_toArray, List.set_cons_zero, List.set_cons_succ, List.getElem_toArray, List.getElem_cons_succ, List.getElem_cons_zero]
    refine wpAnyH_take (i := 5) (v := ?_) rfl (by kernel_rfl) (by kernel_rfl) (by kernel_rfl) (fun _ _ _ h => h) (Or.inl ⟨by rfl, ?_⟩) hHeld ?_
    rotate_left 1
    · (intro w hSw; (try dsimp only at hSw); go_simp <;> with_reducible rfl)
    try simp only [Act.put, List.setIfInBounds_toArray, List.set_cons_zero, List.set_cons_succ, List.getElem_toArray, List.getElem_cons_succ, List.getElem_cons_zero]
    refine wpAnyH_done (by kernel_rfl) ?_ _
    clear hHeld
    go_wp2_with fail
    have HFC := hid (HFB.out.drew)
    have HYC := hid (HYB.out.keep ((Fr.refl (fun _ => False) wb).drew) (fun h => h))
    have HVC := hid (HVB.out.keep ((Fr.refl (fun _ => False) wb).drew) (fun h => h))
    have HBC := hid (HBB.out.keep ((Fr.refl (fun _ => False) wb).drew) (fun h => h))
    have HMC := hid (HMD.out.keep HFC.out (fun h => h))
    have HPC := hid (HTD.out.blk.keep HFC.out (fun h => h))
    clear HFB HYB HVB HBB
    refine wp_region_held_drew (S := fun W => W.cell? ⟨p, 12, none⟩ = some (.map (some m)) ∧ W.cell? ⟨y, 0, none⟩ = some (.int .i64 oa)) (by kernel_rfl) (⟨HPC.out.cell 12 rfl, HYC.out.cell 0 rfl⟩) (fun hHeld => ?_)
    refine wpAnyH_take (i := 0) (v := ?_) rfl (by kernel_rfl) (by kernel_rfl) (by kernel_rfl) (fun _ _ _ h => h) (Or.inl ⟨by rfl, ?_⟩) hHeld ?_
    rotate_left 1
    · (intro w hSw; (try dsimp only at hSw); go_simp <;> with_reducible rfl)
    try simp only [Act.put, List.setIfInBounds_toArray, List.set_cons_zero, List.set_cons_succ, List.getElem_toArray, List.getElem_cons_succ, List.getElem_cons_zero]
    refine wpAnyH_take (i := 1) (v := ?_) rfl (by kernel_rfl) (by kernel_rfl) (by kernel_rfl) (fun _ _ _ h => h) (Or.inl ⟨by rfl, ?_⟩) hHeld ?_
    rotate_left 1
    · (intro w hSw; (try dsimp only at hSw); go_simp <;> with_reducible rfl)
    try simp only [Act.put, List.setIfInBounds_toArray, List.set_cons_zero, List.set_cons_succ, List.getElem_toArray, List.getElem_cons_succ, List.getElem_cons_zero]
    refine wpAnyH_take (i := 2) (v := ?_) rfl (by kernel_rfl) (by kernel_rfl) (by kernel_rfl) (fun _ _ _ h => h) (Or.inl ⟨by rfl, ?_⟩) hHeld ?_
    rotate_left 1
    · (intro w hSw; (try dsimp only at hSw); go_simp <;> with_reducible rfl)
    try simp only [Act.put, List.setIfInBounds_toArray, List.set_cons_zero, List.set_cons_succ, List.getElem_toArray, List.getElem_cons_succ, List.getElem_cons_zero]
    refine wpAnyH_take (i := 3) (v := ?_) rfl (by kernel_rfl) (by kernel_rfl) (by kernel_rfl) (fun _ _ _ h => h) (Or.inl ⟨by rfl, ?_⟩) hHeld ?_
    rotate_left 1
    · (intro w hSw; (try dsimp only at hSw); go_simp <;> with_reducible rfl)
    try simp only [Act.put, List.setIfInBounds_toArray, List.set_cons_zero, List.set_cons_succ, List.getElem_toArray, List.getElem_cons_succ, List.getElem_cons_zero]
    refine wpAnyH_take (i := 4) (v := ?_) rfl (by kernel_rfl) (by kernel_rfl) (by kernel_rfl) (fun _ _ _ h => h) (Or.inl ⟨by rfl, ?_⟩) hHeld ?_
    rotate_left 1
    · (intro w hSw; (try dsimp only at hSw); go_simp <;> with_reducible rfl)
    try simp only [Act.put, List.setIfInBounds_toArray, List.set_cons_zero, List.set_cons_succ, List.getElem_toArray, List.getElem_cons_succ, List.getElem_cons_zero]
    refine wpAnyH_take (i := 5) (v := ?_) rfl (by kernel_rfl) (by kernel_rfl) (by kernel_rfl) (fun _ _ _ h => h) (Or.inl ⟨by rfl, ?_⟩) hHeld ?_
    rotate_left 1
    · (intro w hSw; (try dsimp only at hSw); go_simp <;> with_reducible rfl)
    try simp only [Act.put, List.setIfInBounds_toArray, List.set_cons_zero, List.set_cons_succ, List.getElem_toArray, List.getElem_cons_succ, List.getElem_cons_zero]
    refine wpAnyH_take (i := 6) (v := ?_) rfl (by kernel_rfl) (by kernel_rfl) (by kernel_rfl) (fun _ _ _ h => h) (Or.inl ⟨by rfl, ?_⟩) hHeld ?_
    rotate_left 1
    · (intro w hSw; (try dsimp only at hSw); go_simp <;> with_reducible rfl)
    try simp only [Act.put, List.setIfInBounds_toArray, List.set_cons_zero, List.set_cons_succ, List.getElem_toArray, List.getElem_cons_succ, List.getElem_cons_zero]
    refine wpAnyH_ready (rs := [7]) (by kernel_rfl) (by simp) ?_
    refine AllReadyH.cons rfl (fun K hK => ?_) AllReadyH.nil
    clear hHeld
    refine step_mapUpdate_map (by rfl) (.tmp 68) (.tmp 70) (.tmp 71) 70 (by rfl) (int_keyOk Try.underlying3) Try.underlying70 HMC.out oa (.pointer (some ⟨hh, 0, none⟩)) (by rfl) (by rfl) (by rfl) ?_
    intro we hme fe
    have HTE := hid (HTD.out.fresh HL.out HFC.out HBC.out HVC.out hh1 hq hme fe)
    have HYE := hid (HYC.out.keep fe (fun e => by have h1 := hlive m (.inr (.inl rfl)); omega))
    have HFE := hid ((HFD.out.trans (HFC.out.mono (fun _ _ h => h.elim))).step fe (fun i _ e => .inr (.inl e)))
    have HRE := hid (row_keep (row_keep HRD.out HFC.out (fun _ _ h => h)) fe (fun k hk e => by have h1 := hlive m (.inr (.inl rfl)); have h2 := HA4.out k hk; have : k = m := e; omega))
    have hqw : w.heap.size ≤ q ∧ w.heap.size ≤ hh := by have := HFD.out.size; omega
    refine hK.out _ _ (⟨HTE.out.blk.cell 12 rfl, HYE.out.cell 0 rfl⟩) (fun hHeld => ?_)
    clear hK K
    try simp only [Act.put, List.setIfInBounds_toArray, List.set_cons_zero, List.set_cons_succ, List.getElem_toArray, List.getElem_cons_succ, List.getElem_cons_zero]
    refine wpAnyH_done (by kernel_rfl) ?_ _
    clear hHeld
    clear HTD HFD HYD HRD HMD HFC HYC HVC HBC HMC HPC hh1 hq hme fe
    have HTD := HTE
    have HFD := HFE
    have HYD := HYE
    have HRD := HRE
    clear HTE HFE HYE HRE
    go_wp2_with fail
    have HTN := hid (HTD.out.keep0 ((Fr.refl (fun _ => False) we).drew))
    have HFN := hid (HFD.out.trans ((Fr.refl (tfp p m E) we).drew))
    have HYN := hid (HYD.out.keep ((Fr.refl (fun _ => False) we).drew) (fun h => h))
    have HRN := hid (row_keep HRD.out ((Fr.refl (fun _ => False) we).drew) (fun _ _ h => h))
    clear HTD HFD HYD HRD
    have HTD := HTN
    have HFD := HFN
    have HYD := HYN
    have HRD := HRN
    clear HTN HFN HYN HRN
    have HEB := hid (HTD.out.ent oa _ (if_pos rfl)).1
    refine wp_region_held_drew (S := fun W => W.cell? ⟨y, 1, none⟩ = some (.int .i64 ob) ∧ W.cell? ⟨hh, 0, none⟩ = some (.int .i64 ob)) (by kernel_rfl) (⟨HYD.out.cell 1 rfl, HEB.out.cell 0 rfl⟩) (fun hHeld => ?_)
    refine wpAnyH_take (i := 0) (v := ?_) rfl (by kernel_rfl) (by kernel_rfl) (by kernel_rfl) (fun _ _ _ h => h) (Or.inl ⟨by rfl, ?_⟩) hHeld ?_
    rotate_left 1
    · (intro w hSw; (try dsimp only at hSw); go_simp <;> with_reducible rfl)
    try simp only [Act.put, List.setIfInBounds_toArray, List.set_cons_zero, List.set_cons_succ, List.getElem_toArray, List.getElem_cons_succ, List.getElem_cons_zero]
    refine wpAnyH_take (i := 1) (v := ?_) rfl (by kernel_rfl) (by kernel_rfl) (by kernel_rfl) (fun _ _ _ h => h) (Or.inl ⟨by rfl, ?_⟩) hHeld ?_
    rotate_left 1
    · (intro w hSw; (try dsimp only at hSw); go_simp <;> with_reducible rfl)
    try simp only [Act.put, List.setIfInBounds_toArray, List.set_cons_zero, List.set_cons_succ, List.getElem_toArray, List.getElem_cons_succ, List.getElem_cons_zero]
    refine wpAnyH_take (i := 2) (v := ?_) rfl (by kernel_rfl) (by kernel_rfl) (by kernel_rfl) (fun _ _ _ h => h) (Or.inl ⟨by rfl, ?_⟩) hHeld ?_
    rotate_left 1
    · (intro w hSw; (try dsimp only at hSw); go_simp <;> with_reducible rfl)
    try simp only [Act.put, List.setIfInBounds_toArray, List.set_cons_zero, List.set_cons_succ, List.getElem_toArray, List.getElem_cons_succ, List.getElem_cons_zero]
    refine wpAnyH_take (i := 3) (v := ?_) rfl (by kernel_rfl) (by kernel_rfl) (by kernel_rfl) (fun _ _ _ h => h) (Or.inl ⟨by rfl, ?_⟩) hHeld ?_
    rotate_left 1
    · (intro w hSw; (try dsimp only at hSw); go_simp <;> with_reducible rfl)
    try simp only [Act.put, List.setIfInBounds_toArray, List.set_cons_zero, List.set_cons_succ, List.getElem_toArray, List.getElem_cons_succ, List.getElem_cons_zero]
    refine wpAnyH_take (i := 4) (v := ?_) rfl (by kernel_rfl) (by kernel_rfl) (by kernel_rfl) (fun _ _ _ h => h) (Or.inl ⟨by rfl, ?_⟩) hHeld ?_
    rotate_left 1
    · (intro w hSw; (try dsimp only at hSw); go_simp <;> with_reducible rfl)
    try simp only [Act.put, List.setIfInBounds_toArray, List.set_cons_zero, List.set_cons_succ, List.getElem_toArray, List.getElem_cons_succ, List.getElem_cons_zero]
    refine wpAnyH_take (i := 5) (v := ?_) rfl (by kernel_rfl) (by kernel_rfl) (by kernel_rfl) (fun _ _ _ h => h) (Or.inl ⟨by rfl, ?_⟩) hHeld ?_
    rotate_left 1
    · (intro w hSw; (try dsimp only at hSw); go_simp <;> with_reducible rfl)
    try simp only [Act.put, List.setIfInBounds_toArray, List.set_cons_zero, List.set_cons_succ, List.getElem_toArray, List.getElem_cons_succ, List.getElem_cons_zero]
    refine wpAnyH_take (i := 6) (v := ?_) rfl (by kernel_rfl) (by kernel_rfl) (by kernel_rfl) (fun _ _ _ h => h) (Or.inl ⟨by rfl, ?_⟩) hHeld ?_
    rotate_left 1
    · (intro w hSw; (try dsimp only at hSw); go_simp <;> with_reducible rfl)
    try simp only [Act.put, List.setIfInBounds_toArray, List.set_cons_zero, List.set_cons_succ, List.getElem_toArray, List.getElem_cons_succ, List.getElem_cons_zero]
    refine wpAnyH_done (by kernel_rfl) ?_ _
    clear hHeld
    clear HEB
    go_wp2_with fail
    generalize we.drew = wf at *
    have HTN := hid (HTD.out.keep0 ((Fr.refl (fun _ => False) wf).drew))
    have HFN := hid (HFD.out.trans ((Fr.refl (tfp p m E) wf).drew))
    have HYN := hid (HYD.out.keep ((Fr.refl (fun _ => False) wf).drew) (fun h => h))
    have HRN := hid (row_keep HRD.out ((Fr.refl (fun _ => False) wf).drew) (fun _ _ h => h))
    clear HTD HFD HYD HRD
    have HTD := HTN
    have HFD := HFN
    have HYD := HYN
    have HRD := HRN
    clear HTN HFN HYN HRN
    have HEB := hid (HTD.out.ent oa _ (if_pos rfl)).1
    have HEV := hid (HTD.out.ent oa _ (if_pos rfl)).2
    have HYQ : Hid (y ≠ q) := hid (fun e => by obtain ⟨_, _, g, _⟩ := HEV.out; exact absurd ((e ▸ HYD.out).type g) (by decide))
    have HRQ : Hid (∀ k, k ∈ footOf (.slice ao nb cap) → k ≠ q) := hid (fun k hk e => row_no HRD.out HEV.out hk e)
    have HQO : Hid (∀ i, i < w.heap.size → i = q → tfp p m E i) := hid (fun i hi e => by omega)
    refine wp_region_held_drew (S := fun W => W.cell? ⟨hh, 1, none⟩ = some (.pointer (some ⟨q, 0, none⟩)) ∧ W.cell? ⟨y, 2, none⟩ = some (.int .i64 oc)) (by kernel_rfl) (⟨HEB.out.cell 1 rfl, HYD.out.cell 2 rfl⟩) (fun hHeld => ?_)
    refine wpAnyH_take (i := 0) (v := ?_) rfl (by kernel_rfl) (by kernel_rfl) (by kernel_rfl) (fun _ _ _ h => h) (Or.inl ⟨by rfl, ?_⟩) hHeld ?_
    rotate_left 1
    · (intro w hSw; (try dsimp only at hSw); go_simp <;> with_reducible rfl)
    try simp only [Act.put, List.setIfInBounds_toArray, List.set_cons_zero, List.set_cons_succ, List.getElem_toArray, List.getElem_cons_succ, List.getElem_cons_zero]
    refine wpAnyH_take (i := 1) (v := ?_) rfl (by kernel_rfl) (by kernel_rfl) (by kernel_rfl) (fun _ _ _ h => h) (Or.inl ⟨by rfl, ?_⟩) hHeld ?_
    rotate_left 1
    · (intro w hSw; (try dsimp only at hSw); go_simp <;> with_reducible rfl)
    try simp only [Act.put, List.setIfInBounds_toArray, List.set_cons_zero, List.set_cons_succ, List.getElem_toArray, List.getElem_cons_succ, List.getElem_cons_zero]
    refine wpAnyH_take (i := 2) (v := ?_) rfl (by kernel_rfl) (by kernel_rfl) (by kernel_rfl) (fun _ _ _ h => h) (Or.inl ⟨by rfl, ?_⟩) hHeld ?_
    rotate_left 1
    · (intro w hSw; (try dsimp only at hSw); go_simp <;> with_reducible rfl)
    try simp only [Act.put, List.setIfInBounds_toArray, List.set_cons_zero, List.set_cons_succ, List.getElem_toArray, List.getElem_cons_succ, List.getElem_cons_zero]
    refine wpAnyH_take (i := 3) (v := ?_) rfl (by kernel_rfl) (by kernel_rfl) (by kernel_rfl) (fun _ _ _ h => h) (Or.inl ⟨by rfl, ?_⟩) hHeld ?_
    rotate_left 1
    · (intro w hSw; (try dsimp only at hSw); go_simp <;> with_reducible rfl)
    try simp only [Act.put, List.setIfInBounds_toArray, List.set_cons_zero, List.set_cons_succ, List.getElem_toArray, List.getElem_cons_succ, List.getElem_cons_zero]
    refine wpAnyH_take (i := 4) (v := ?_) rfl (by kernel_rfl) (by kernel_rfl) (by kernel_rfl) (fun _ _ _ h => h) (Or.inl ⟨by rfl, ?_⟩) hHeld ?_
    rotate_left 1
    · (intro w hSw; (try dsimp only at hSw); go_simp <;> with_reducible rfl)
    try simp only [Act.put, List.setIfInBounds_toArray, List.set_cons_zero, List.set_cons_succ, List.getElem_toArray, List.getElem_cons_succ, List.getElem_cons_zero]
    refine wpAnyH_take (i := 5) (v := ?_) rfl (by kernel_rfl) (by kernel_rfl) (by kernel_rfl) (fun _ _ _ h => h) (Or.inl ⟨by rfl, ?_⟩) hHeld ?_
    rotate_left 1
    · (intro w hSw; (try dsimp only at hSw); go_simp <;> with_reducible rfl)
    try simp only [Act.put, List.setIfInBounds_toArray, List.set_cons_zero, List.set_cons_succ, List.getElem_toArray, List.getElem_cons_succ, List.getElem_cons_zero]
    refine wpAnyH_ready (rs := [6]) (by kernel_rfl) (by simp) ?_
    refine AllReadyH.cons rfl (fun K hK => ?_) AllReadyH.nil
    clear hHeld
    go_simp
    go_at_call 59
    with_reducible refine (HFH.out q [] _ HEV.out).mono ?_
    rintro e wh ⟨rfl, Vh, fh⟩
    have HTH := hid (HTD.out.seen (if_pos rfl) fh Vh)
    have HYH := hid (HYD.out.keep fh (fun e => HYQ.out e))
    have HBH := hid (HTH.out.ent oa _ (if_pos rfl)).1
    have HRH := hid (row_keep HRD.out fh (fun k hk e => HRQ.out k hk e))
    have HFH2 := hid (HFD.out.step fh (fun i hi e => HQO.out i hi e))
    refine hK.out _ _ (⟨HBH.out.cell 1 rfl, HYH.out.cell 2 rfl⟩) (fun hHeld => ?_)
    clear hK K
    try simp only [Act.put, List.setIfInBounds_toArray, List.set_cons_zero, List.set_cons_succ, List.getElem_toArray, List.getElem_cons_succ, List.getElem_cons_zero]
    refine wpAnyH_take (i := 7) (v := ?_) rfl (by kernel_rfl) (by kernel_rfl) (by kernel_rfl) (fun _ _ _ h => h) (Or.inl ⟨by rfl, ?_⟩) hHeld ?_
    rotate_left 1
    · (intro w hSw; (try dsimp only at hSw); go_simp <;> with_reducible rfl)
    try simp only [Act.put, List.setIfInBounds_toArray, List.set_cons_zero, List.set_cons_succ, List.getElem_toArray, List.getElem_cons_succ, List.getElem_cons_zero]
    refine wpAnyH_take (i := 8) (v := ?_) rfl (by kernel_rfl) (by kernel_rfl) (by kernel_rfl) (fun _ _ _ h => h) (Or.inl ⟨by rfl, ?_⟩) hHeld ?_
    rotate_left 1
    · (intro w hSw; (try dsimp only at hSw); go_simp <;> with_reducible rfl)
    try simp only [Act.put, List.setIfInBounds_toArray, List.set_cons_zero, List.set_cons_succ, List.getElem_toArray, List.getElem_cons_succ, List.getElem_cons_zero]
    refine wpAnyH_take (i := 9) (v := ?_) rfl (by kernel_rfl) (by kernel_rfl) (by kernel_rfl) (fun _ _ _ h => h) (Or.inl ⟨by rfl, ?_⟩) hHeld ?_
    rotate_left 1
    · (intro w hSw; (try dsimp only at hSw); go_simp <;> with_reducible rfl)
    try simp only [Act.put, List.setIfInBounds_toArray, List.set_cons_zero, List.set_cons_succ, List.getElem_toArray, List.getElem_cons_succ, List.getElem_cons_zero]
    refine wpAnyH_take (i := 10) (v := ?_) rfl (by kernel_rfl) (by kernel_rfl) (by kernel_rfl) (fun _ _ _ h => h) (Or.inl ⟨by rfl, ?_⟩) hHeld ?_
    rotate_left 1
    · (intro w hSw; (try dsimp only at hSw); go_simp <;> with_reducible rfl)
    try simp only [Act.put, List.setIfInBounds_toArray, List.set_cons_zero, List.set_cons_succ, List.getElem_toArray, List.getElem_cons_succ, List.getElem_cons_zero]
    refine wpAnyH_take (i := 11) (v := ?_) rfl (by kernel_rfl) (by kernel_rfl) (by kernel_rfl) (fun _ _ _ h => h) (Or.inl ⟨by rfl, ?_⟩) hHeld ?_
    rotate_left 1
    · (intro w hSw; (try dsimp only at hSw); go_simp <;> with_reducible rfl)
    try simp only [Act.put, List.setIfInBounds_toArray, List.set_cons_zero, List.set_cons_succ, List.getElem_toArray, List.getElem_cons_succ, List.getElem_cons_zero]
    refine wpAnyH_done (by kernel_rfl) ?_ _
    clear hHeld
    have hy3 := HYH.out.cell (i := 3) rfl
    go_wp2_with fail
    go_ret3
    refine ⟨.slice ao nb cap, _, ?_, ?_, HA4.out, HTH.out, fun k => ?_, fun b hb => ?_, HFH2.out⟩
    · show _ = Ending.returned (.tuple #[_, .bool (freshH (AB E oa) ob oc), _])
      rw [HAB.out]
      show _ = Ending.returned (.tuple #[_, .bool (isF [] oc), _])
      skip
      rw [HER.out]; rfl
    · show World.ownsRow _ _ _ _ _ obs.length (obs.map _)
      rw [← HNB.out]; exact HRH.out
    · show AB _ k = if k = oa then some (nextH (AB E oa) ob oc) else AB E k
      by_cases hka : k = oa
      · rw [if_pos hka, HAB.out]; simp [AB, nextH, hka]
      · rw [if_neg hka]; simp [AB, hka]
    · rcases hb with hb | hb | ⟨k, e, he, hb⟩
      · exact .inl (.inl hb)
      · exact .inl (.inr (.inl hb))
      · by_cases hka : k = oa
        · simp only [if_pos hka, Option.some.injEq] at he; subst he; rcases hb with hb | hb <;> (right; simp only at hb; omega)
        · simp only [if_neg hka] at he; exact .inl (.inr (.inr ⟨k, e, he, hb⟩))
  | some e0 =>
    obtain ⟨eh, eq, el, eL⟩ := e0
    have HE := hid hE
    have HLN : Hid (look M oa = some (.pointer (some ⟨eh, 0, none⟩))) := hid (by rw [HL.out, hE]; rfl)
    clear hE
    have HEB := hid (HTD.out.ent oa _ HE.out).1
    rcases Int.lt_trichotomy el ob with hlt | heq | hgt
    · have dlt : decide (el < ob) = true := decide_eq_true hlt
      have HLT := hid hlt
      clear hlt
      have HAB : Hid (AB E oa = some (el, eL)) := hid (by unfold AB; rw [HE.out]; rfl)
      refine wp_region_held_drew (S := fun W => W.cell? ⟨p, 12, none⟩ = some (.map (some m)) ∧ W.cell? ⟨y, 0, none⟩ = some (.int .i64 oa) ∧ MapIs W m (Value.int .i64) M) (by kernel_rfl) (⟨HTD.out.blk.cell 12 rfl, HYD.out.cell 0 rfl, HMD.out⟩) (fun hHeld => ?_)
      refine wpAnyH_take (i := 0) (v := ?_) rfl (by kernel_rfl) (by kernel_rfl) (by kernel_rfl) (fun _ _ _ h => h) (Or.inl ⟨by rfl, ?_⟩) hHeld ?_
      rotate_left 1
      · (intro w hSw; (try dsimp only at hSw); go_simp <;> with_reducible rfl)
      try simp only [Act.put, List.setIfInBounds_toArray, List.set_cons_zero, List.set_cons_succ, List.getElem_toArray, List.getElem_cons_succ, List.getElem_cons_zero]
      refine wpAnyH_take (i := 1) (v := ?_) rfl (by kernel_rfl) (by kernel_rfl) (by kernel_rfl) (fun _ _ _ h => h) (Or.inl ⟨by rfl, ?_⟩) hHeld ?_
      rotate_left 1
      · (intro w hSw; (try dsimp only at hSw); go_simp <;> with_reducible rfl)
      try simp only [Act.put, List.setIfInBounds_toArray, List.set_cons_zero, List.set_cons_succ, List.getElem_toArray, List.getElem_cons_succ, List.getElem_cons_zero]
      refine wpAnyH_take (i := 2) (v := ?_) rfl (by kernel_rfl) (by kernel_rfl) (by kernel_rfl) (fun _ _ _ h => h) (Or.inl ⟨by rfl, ?_⟩) hHeld ?_
      rotate_left 1
      · (intro w hSw; (try dsimp only at hSw); go_simp <;> with_reducible rfl)
      try simp only [Act.put, List.setIfInBounds_toArray, List.set_cons_zero, List.set_cons_succ, List.getElem_toArray, List.getElem_cons_succ, List.getElem_cons_zero]
      refine wpAnyH_take (i := 3) (v := ?_) rfl (by kernel_rfl) (by kernel_rfl) (by kernel_rfl) (fun _ _ _ h => h) (Or.inl ⟨by rfl, ?_⟩) hHeld ?_
      rotate_left 1
      · (intro w hSw; (try dsimp only at hSw); go_simp <;> with_reducible rfl)
      try simp only [Act.put, List.setIfInBounds_toArray, List.set_cons_zero, List.set_cons_succ, List.getElem_toArray, List.getElem_cons_succ, List.getElem_cons_zero]
      refine wpAnyH_take (i := 4) (v := ?_) rfl (by kernel_rfl) (by kernel_rfl) (by kernel_rfl) (fun _ _ _ h => h) (Or.inl ⟨by rfl, ?_⟩) hHeld ?_
      rotate_left 1
      · (intro w hSw; (try dsimp only at hSw); go_simp <;> with_reducible rfl)
      try simp only [Act.put, List.setIfInBounds_toArray, List.set_cons_zero, List.set_cons_succ, List.getElem_toArray, List.getElem_cons_succ, List.getElem_cons_zero]
      refine wpAnyH_take (i := 5) (v := ?_) rfl (by kernel_rfl) (by kernel_rfl) (by kernel_rfl) (fun _ _ _ h => h) (Or.inl ⟨by rfl, ?_⟩) hHeld ?_
      rotate_left 1
      · (intro w hSw; (try dsimp only at hSw); go_simp <;> with_reducible rfl)
      try simp only [Act.put, List.setIfInBounds_toArray, List.set_cons_zero, List.set_cons_succ, List.getElem_toArray, List.getElem_cons_succ, List.getElem_cons_zero]
      refine wpAnyH_take (i := 6) (v := .pointer (some ⟨eh, 0, none⟩)) rfl (by kernel_rfl) (by kernel_rfl) (by kernel_rfl) (fun _ _ _ h => h) (yields_lookup1 (by rfl) (.tmp 45) (.tmp 47) 70 (by rfl) (int_keyOk Try.underlying3) Try.underlying70 zeroHeard (fun W h => h.2.2) oa (by rfl) (by rfl) _ (by rw [HLN.out]; rfl)) hHeld ?_
      try simp only [Act.put, List.setIfInBounds_toArray, List.set_cons_zero, List.set_cons_succ, List.getElem_toArray, List.getElem_cons_succ, List.getElem_cons_zero]
      refine wpAnyH_take (i := 7) (v := ?_) rfl (by kernel_rfl) (by kernel_rfl) (by kernel_rfl) (fun _ _ _ h => h) (Or.inl ⟨by rfl, ?_⟩) hHeld ?_
      rotate_left 1
      · (intro w hSw; (try dsimp only at hSw); go_simp <;> with_reducible rfl)
      try simp only [Act.put, List.setIfInBounds_toArray, List.set_cons_zero, List.set_cons_succ, List.getElem_toArray, List.getElem_cons_succ, List.getElem_cons_zero]
      refine wpAnyH_done (by kernel_rfl) ?_ _
      clear hHeld
      go_wp2_with fail
      generalize w6.drew = wa0 at *
      have HTN := hid (HTD.out.keep0 ((Fr.refl (fun _ => False) wa0).drew))
      have HFN := hid (HFD.out.trans ((Fr.refl (tfp p m E) wa0).drew))
      have HYN := hid (HYD.out.keep ((Fr.refl (fun _ => False) wa0).drew) (fun h => h))
      have HRN := hid (row_keep HRD.out ((Fr.refl (fun _ => False) wa0).drew) (fun _ _ h => h))
      have HMN := hid (HMD.out.keep ((Fr.refl (fun _ => False) wa0).drew) (fun h => h))
      have HEB2 := hid (HEB.out.keep ((Fr.refl (fun _ => False) wa0).drew) (fun h => h))
      clear HEB
      have HEB := HEB2
      clear HEB2
      clear HTD HFD HYD HRD HMD
      have HTD := HTN
      have HFD := HFN
      have HYD := HYN
      have HRD := HRN
      have HMD := HMN
      clear HTN HFN HYN HRN HMN
      refine wp_region_held_drew (S := fun W => W.cell? ⟨y, 1, none⟩ = some (.int .i64 ob) ∧ W.cell? ⟨eh, 0, none⟩ = some (.int .i64 el)) (by kernel_rfl) (⟨HYD.out.cell 1 rfl, HEB.out.cell 0 rfl⟩) (fun hHeld => ?_)
      refine wpAnyH_take (i := 0) (v := ?_) rfl (by kernel_rfl) (by kernel_rfl) (by kernel_rfl) (fun _ _ _ h => h) (Or.inl ⟨by rfl, ?_⟩) hHeld ?_
      rotate_left 1
      · (intro w hSw; (try dsimp only at hSw); go_simp <;> with_reducible rfl)
      try simp only [Act.put, List.setIfInBounds_toArray, List.set_cons_zero, List.set_cons_succ, List.getElem_toArray, List.getElem_cons_succ, List.getElem_cons_zero]
      refine wpAnyH_take (i := 1) (v := ?_) rfl (by kernel_rfl) (by kernel_rfl) (by kernel_rfl) (fun _ _ _ h => h) (Or.inl ⟨by rfl, ?_⟩) hHeld ?_
      rotate_left 1
      · (intro w hSw; (try dsimp only at hSw); go_simp <;> with_reducible rfl)
      try simp only [Act.put, List.setIfInBounds_toArray, List.set_cons_zero, List.set_cons_succ, List.getElem_toArray, List.getElem_cons_succ, List.getElem_cons_zero]
      refine wpAnyH_take (i := 2) (v := ?_) rfl (by kernel_rfl) (by kernel_rfl) (by kernel_rfl) (fun _ _ _ h => h) (Or.inl ⟨by rfl, ?_⟩) hHeld ?_
      rotate_left 1
      · (intro w hSw; (try dsimp only at hSw); go_simp <;> with_reducible rfl)
      try simp only [Act.put, List.setIfInBounds_toArray, List.set_cons_zero, List.set_cons_succ, List.getElem_toArray, List.getElem_cons_succ, List.getElem_cons_zero]
      refine wpAnyH_take (i := 3) (v := ?_) rfl (by kernel_rfl) (by kernel_rfl) (by kernel_rfl) (fun _ _ _ h => h) (Or.inl ⟨by rfl, ?_⟩) hHeld ?_
      rotate_left 1
      · (intro w hSw; (try dsimp only at hSw); go_simp <;> with_reducible rfl)
      try simp only [Act.put, List.setIfInBounds_toArray, List.set_cons_zero, List.set_cons_succ, List.getElem_toArray, List.getElem_cons_succ, List.getElem_cons_zero]
      refine wpAnyH_take (i := 4) (v := ?_) rfl (by kernel_rfl) (by kernel_rfl) (by kernel_rfl) (fun _ _ _ h => h) (Or.inl ⟨by rfl, ?_⟩) hHeld ?_
      rotate_left 1
      · (intro w hSw; (try dsimp only at hSw); go_simp <;> with_reducible rfl)
      try simp only [Act.put, List.setIfInBounds_toArray, List.set_cons_zero, List.set_cons_succ, List.getElem_toArray, List.getElem_cons_succ, List.getElem_cons_zero]
      refine wpAnyH_take (i := 5) (v := ?_) rfl (by kernel_rfl) (by kernel_rfl) (by kernel_rfl) (fun _ _ _ h => h) (Or.inl ⟨by rfl, ?_⟩) hHeld ?_
      rotate_left 1
      · (intro w hSw; (try dsimp only at hSw); go_simp <;> with_reducible rfl)
      try simp only [Act.put, List.setIfInBounds_toArray, List.set_cons_zero, List.set_cons_succ, List.getElem_toArray, List.getElem_cons_succ, List.getElem_cons_zero]
      refine wpAnyH_take (i := 6) (v := ?_) rfl (by kernel_rfl) (by kernel_rfl) (by kernel_rfl) (fun _ _ _ h => h) (Or.inl ⟨by rfl, ?_⟩) hHeld ?_
      rotate_left 1
      · (intro w hSw; (try dsimp only at hSw); go_simp <;> with_reducible rfl)
      try simp only [Act.put, List.setIfInBounds_toArray, List.set_cons_zero, List.set_cons_succ, List.getElem_toArray, List.getElem_cons_succ, List.getElem_cons_zero]
      refine wpAnyH_take (i := 7) (v := ?_) rfl (by kernel_rfl) (by kernel_rfl) (by kernel_rfl) (fun _ _ _ h => h) (Or.inl ⟨by rfl, ?_⟩) hHeld ?_
      rotate_left 1
      · (intro w hSw; (try dsimp only at hSw); go_simp <;> with_reducible rfl)
      try simp only [Act.put, List.setIfInBounds_toArray, List.set_cons_zero, List.set_cons_succ, List.getElem_toArray, List.getElem_cons_succ, List.getElem_cons_zero]
      refine wpAnyH_take (i := 8) (v := ?_) rfl (by kernel_rfl) (by kernel_rfl) (by kernel_rfl) (fun _ _ _ h => h) (Or.inl ⟨by rfl, ?_⟩) hHeld ?_
      rotate_left 1
      · (intro w hSw; (try dsimp only at hSw); go_simp <;> with_reducible rfl)
      try simp only [Act.put, List.setIfInBounds_toArray, List.set_cons_zero, List.set_cons_succ, List.getElem_toArray, List.getElem_cons_succ, List.getElem_cons_zero]
      refine wpAnyH_take (i := 9) (v := ?_) rfl (by kernel_rfl) (by kernel_rfl) (by kernel_rfl) (fun _ _ _ h => h) (Or.inl ⟨by rfl, ?_⟩) hHeld ?_
      rotate_left 1
      · (intro w hSw; (try dsimp only at hSw); go_simp <;> with_reducible rfl)
      try simp only [Act.put, List.setIfInBounds_toArray, List.set_cons_zero, List.set_cons_succ, List.getElem_toArray, List.getElem_cons_succ, List.getElem_cons_zero]
      refine wpAnyH_take (i := 10) (v := ?_) rfl (by kernel_rfl) (by kernel_rfl) (by kernel_rfl) (fun _ _ _ h => h) (Or.inl ⟨by rfl, ?_⟩) hHeld ?_
      rotate_left 1
      · (intro w hSw; (try dsimp only at hSw); go_simp <;> with_reducible rfl)
      try simp only [Act.put, List.setIfInBounds_toArray, List.set_cons_zero, List.set_cons_succ, List.getElem_toArray, List.getElem_cons_succ, List.getElem_cons_zero]
      refine wpAnyH_done (by kernel_rfl) ?_ _
      clear hHeld
      go_wp2_with fail
      clear dlt HEB
      generalize wa0.drew = wb0 at *
      have HTN := hid (HTD.out.keep0 ((Fr.refl (fun _ => False) wb0).drew))
      have HFN := hid (HFD.out.trans ((Fr.refl (tfp p m E) wb0).drew))
      have HYN := hid (HYD.out.keep ((Fr.refl (fun _ => False) wb0).drew) (fun h => h))
      have HRN := hid (row_keep HRD.out ((Fr.refl (fun _ => False) wb0).drew) (fun _ _ h => h))
      have HMN := hid (HMD.out.keep ((Fr.refl (fun _ => False) wb0).drew) (fun h => h))
      clear HTD HFD HYD HRD HMD
      have HTD := HTN
      have HFD := HFN
      have HYD := HYN
      have HRD := HRN
      have HMD := HMN
      clear HTN HFN HYN HRN HMN
      refine wp_region_held_drew (S := fun W => W.cell? ⟨y, 1, none⟩ = some (.int .i64 ob)) (by kernel_rfl) (HYD.out.cell 1 rfl) (fun hHeld => ?_)
      refine wpAnyH_take (i := 0) (v := ?_) rfl (by kernel_rfl) (by kernel_rfl) (by kernel_rfl) (fun _ _ _ h => h) (Or.inl ⟨by rfl, ?_⟩) hHeld ?_
      rotate_left 1
      · (intro w hSw; (try dsimp only at hSw); go_simp <;> with_reducible rfl)
      try simp only [Act.put, List.setIfInBounds_toArray, List.set_cons_zero, List.set_cons_succ, List.getElem_toArray, List.getElem_cons_succ, List.getElem_cons_zero]
      refine wpAnyH_take (i := 1) (v := ?_) rfl (by kernel_rfl) (by kernel_rfl) (by kernel_rfl) (fun _ _ _ h => h) (Or.inl ⟨by rfl, ?_⟩) hHeld ?_
      rotate_left 1
      · (intro w hSw; (try dsimp only at hSw); go_simp <;> with_reducible rfl)
      try simp only [Act.put, List.setIfInBounds_toArray, List.set_cons_zero, List.set_cons_succ, List.getElem_toArray, List.getElem_cons_succ, List.getElem_cons_zero]
      refine wpAnyH_ready (rs := [2]) (by kernel_rfl) (by simp) ?_
      refine AllReadyH.cons rfl (fun K hK => ?_) AllReadyH.nil
      clear hHeld
      go_simp
      go_at_call 58
      with_reducible refine (new_at _).mono ?_
      rintro e wa ⟨q, rfl, hq, Vq, fa⟩
      have HYA := hid (HYD.out.keep fa (fun h => h))
      have HVA := hid Vq
      have HFA := hid fa
      clear Vq fa
      refine hK.out _ _ (HYA.out.cell 1 rfl) (fun hHeld => ?_)
      clear hK K
      try simp only [Act.put, List.setIfInBounds_toArray, List.set_cons_zero, List.set_cons_succ, List.getElem_toArray, List.getElem_cons_succ, List.getElem_cons_zero]
      refine wpAnyH_take (i := 3) (v := ?_) rfl (by kernel_rfl) (by kernel_rfl) (by kernel_rfl) (fun _ _ _ h => h) (Or.inl ⟨by rfl, ?_⟩) hHeld ?_
      rotate_left 1
      · (intro w hSw; (try dsimp only at hSw); go_simp <;> with_reducible rfl)
      try simp only [Act.put, List.setIfInBounds_toArray, List.set_cons_zero, List.set_cons_succ, List.getElem_toArray, List.getElem_cons_succ, List.getElem_cons_zero]
      refine wpAnyH_ready (rs := [4]) (by kernel_rfl) (by simp) ?_
      refine AllReadyH.cons rfl (fun K hK => ?_) AllReadyH.nil
      clear hHeld
      refine step_boxed (by rfl) 94 (.tmp 63) (by rfl) #[.int .i64 ob, .pointer (some ⟨q, 0, none⟩)] (by rfl) ?_
      intro hh wb hhh Bh fb zb
      have hh1 : wb0.drew.heap.size ≤ hh := by have := HFA.out.size; omega
      have HFB := hid (HFA.out.trans fb)
      have HYB := hid (HYA.out.keep fb (fun h => h))
      have HVB := hid (HVA.out.keep fb (fun h => h))
      have HBB := hid Bh
      clear HFA HYA HVA fb hhh zb Bh
      refine hK.out _ _ (HYB.out.cell 1 rfl) (fun hHeld => ?_)
      clear hK K
      try simp only [Act.put, List.setIfInBounds_toArray, List.set_cons_zero, List.set_cons_succ, List.getElem_toArray, List.getElem_cons_succ, List.getElem_cons_zero]
      refine wpAnyH_take (i := 5) (v := ?_) rfl (by kernel_rfl) (by kernel_rfl) (by kernel_rfl) (fun _ _ _ h => h) (Or.inl ⟨by rfl, ?_⟩) hHeld ?_
      rotate_left 1
      · (intro w hSw; (try dsimp only at hSw); go_simp <;> with_reducible rfl)
      try simp only [Act.put, List.setIfInBounds_toArray, List.set_cons_zero, List.set_cons_succ, List.getElem_toArray, List.getElem_cons_succ, List.getElem_cons_zero]
      refine wpAnyH_done (by kernel_rfl) ?_ _
      clear hHeld
      go_wp2_with fail
      have HFC := hid (HFB.out.drew)
      have HYC := hid (HYB.out.keep ((Fr.refl (fun _ => False) wb).drew) (fun h => h))
      have HVC := hid (HVB.out.keep ((Fr.refl (fun _ => False) wb).drew) (fun h => h))
      have HBC := hid (HBB.out.keep ((Fr.refl (fun _ => False) wb).drew) (fun h => h))
      have HMC := hid (HMD.out.keep HFC.out (fun h => h))
      have HPC := hid (HTD.out.blk.keep HFC.out (fun h => h))
      clear HFB HYB HVB HBB
      refine wp_region_held_drew (S := fun W => W.cell? ⟨p, 12, none⟩ = some (.map (some m)) ∧ W.cell? ⟨y, 0, none⟩ = some (.int .i64 oa)) (by kernel_rfl) (⟨HPC.out.cell 12 rfl, HYC.out.cell 0 rfl⟩) (fun hHeld => ?_)
      refine wpAnyH_take (i := 0) (v := ?_) rfl (by kernel_rfl) (by kernel_rfl) (by kernel_rfl) (fun _ _ _ h => h) (Or.inl ⟨by rfl, ?_⟩) hHeld ?_
      rotate_left 1
      · (intro w hSw; (try dsimp only at hSw); go_simp <;> with_reducible rfl)
      try simp only [Act.put, List.setIfInBounds_toArray, List.set_cons_zero, List.set_cons_succ, List.getElem_toArray, List.getElem_cons_succ, List.getElem_cons_zero]
      refine wpAnyH_take (i := 1) (v := ?_) rfl (by kernel_rfl) (by kernel_rfl) (by kernel_rfl) (fun _ _ _ h => h) (Or.inl ⟨by rfl, ?_⟩) hHeld ?_
      rotate_left 1
      · (intro w hSw; (try dsimp only at hSw); go_simp <;> with_reducible rfl)
      try simp only [Act.put, List.setIfInBounds_toArray, List.set_cons_zero, List.set_cons_succ, List.getElem_toArray, List.getElem_cons_succ, List.getElem_cons_zero]
      refine wpAnyH_take (i := 2) (v := ?_) rfl (by kernel_rfl) (by kernel_rfl) (by kernel_rfl) (fun _ _ _ h => h) (Or.inl ⟨by rfl, ?_⟩) hHeld ?_
      rotate_left 1
      · (intro w hSw; (try dsimp only at hSw); go_simp <;> with_reducible rfl)
      try simp only [Act.put, List.setIfInBounds_toArray, List.set_cons_zero, List.set_cons_succ, List.getElem_toArray, List.getElem_cons_succ, List.getElem_cons_zero]
      refine wpAnyH_take (i := 3) (v := ?_) rfl (by kernel_rfl) (by kernel_rfl) (by kernel_rfl) (fun _ _ _ h => h) (Or.inl ⟨by rfl, ?_⟩) hHeld ?_
      rotate_left 1
      · (intro w hSw; (try dsimp only at hSw); go_simp <;> with_reducible rfl)
      try simp only [Act.put, List.setIfInBounds_toArray, List.set_cons_zero, List.set_cons_succ, List.getElem_toArray, List.getElem_cons_succ, List.getElem_cons_zero]
      refine wpAnyH_take (i := 4) (v := ?_) rfl (by kernel_rfl) (by kernel_rfl) (by kernel_rfl) (fun _ _ _ h => h) (Or.inl ⟨by rfl, ?_⟩) hHeld ?_
      rotate_left 1
      · (intro w hSw; (try dsimp only at hSw); go_simp <;> with_reducible rfl)
      try simp only [Act.put, List.setIfInBounds_toArray, List.set_cons_zero, List.set_cons_succ, List.getElem_toArray, List.getElem_cons_succ, List.getElem_cons_zero]
      refine wpAnyH_take (i := 5) (v := ?_) rfl (by kernel_rfl) (by kernel_rfl) (by kernel_rfl) (fun _ _ _ h => h) (Or.inl ⟨by rfl, ?_⟩) hHeld ?_
      rotate_left 1
      · (intro w hSw; (try dsimp only at hSw); go_simp <;> with_reducible rfl)
      try simp only [Act.put, List.setIfInBounds_toArray, List.set_cons_zero, List.set_cons_succ, List.getElem_toArray, List.getElem_cons_succ, List.getElem_cons_zero]
      refine wpAnyH_take (i := 6) (v := ?_) rfl (by kernel_rfl) (by kernel_rfl) (by kernel_rfl) (fun _ _ _ h => h) (Or.inl ⟨by rfl, ?_⟩) hHeld ?_
      rotate_left 1
      · (intro w hSw; (try dsimp only at hSw); go_simp <;> with_reducible rfl)
      try simp only [Act.put, List.setIfInBounds_toArray, List.set_cons_zero, List.set_cons_succ, List.getElem_toArray, List.getElem_cons_succ, List.getElem_cons_zero]
      refine wpAnyH_ready (rs := [7]) (by kernel_rfl) (by simp) ?_
      refine AllReadyH.cons rfl (fun K hK => ?_) AllReadyH.nil
      clear hHeld
      refine step_mapUpdate_map (by rfl) (.tmp 68) (.tmp 70) (.tmp 71) 70 (by rfl) (int_keyOk Try.underlying3) Try.underlying70 HMC.out oa (.pointer (some ⟨hh, 0, none⟩)) (by rfl) (by rfl) (by rfl) ?_
      intro we hme fe
      have HTE := hid (HTD.out.fresh HL.out HFC.out HBC.out HVC.out hh1 hq hme fe)
      have HYE := hid (HYC.out.keep fe (fun e => by have h1 := hlive m (.inr (.inl rfl)); omega))
      have HFE := hid ((HFD.out.trans (HFC.out.mono (fun _ _ h => h.elim))).step fe (fun i _ e => .inr (.inl e)))
      have HRE := hid (row_keep (row_keep HRD.out HFC.out (fun _ _ h => h)) fe (fun k hk e => by have h1 := hlive m (.inr (.inl rfl)); have h2 := HA4.out k hk; have : k = m := e; omega))
      have hqw : w.heap.size ≤ q ∧ w.heap.size ≤ hh := by have := HFD.out.size; omega
      refine hK.out _ _ (⟨HTE.out.blk.cell 12 rfl, HYE.out.cell 0 rfl⟩) (fun hHeld => ?_)
      clear hK K
      try simp only [Act.put, List.setIfInBounds_toArray, List.set_cons_zero, List.set_cons_succ, List.getElem_toArray, List.getElem_cons_succ, List.getElem_cons_zero]
      refine wpAnyH_done (by kernel_rfl) ?_ _
      clear hHeld
      clear HTD HFD HYD HRD HMD HFC HYC HVC HBC HMC HPC hh1 hq hme fe
      have HTD := HTE
      have HFD := HFE
      have HYD := HYE
      have HRD := HRE
      clear HTE HFE HYE HRE
      go_wp2_with fail
      have HTN := hid (HTD.out.keep0 ((Fr.refl (fun _ => False) we).drew))
      have HFN := hid (HFD.out.trans ((Fr.refl (tfp p m E) we).drew))
      have HYN := hid (HYD.out.keep ((Fr.refl (fun _ => False) we).drew) (fun h => h))
      have HRN := hid (row_keep HRD.out ((Fr.refl (fun _ => False) we).drew) (fun _ _ h => h))
      clear HTD HFD HYD HRD
      have HTD := HTN
      have HFD := HFN
      have HYD := HYN
      have HRD := HRN
      clear HTN HFN HYN HRN
      have HEB := hid (HTD.out.ent oa _ (if_pos rfl)).1
      refine wp_region_held_drew (S := fun W => W.cell? ⟨y, 1, none⟩ = some (.int .i64 ob) ∧ W.cell? ⟨hh, 0, none⟩ = some (.int .i64 ob)) (by kernel_rfl) (⟨HYD.out.cell 1 rfl, HEB.out.cell 0 rfl⟩) (fun hHeld => ?_)
      refine wpAnyH_take (i := 0) (v := ?_) rfl (by kernel_rfl) (by kernel_rfl) (by kernel_rfl) (fun _ _ _ h => h) (Or.inl ⟨by rfl, ?_⟩) hHeld ?_
      rotate_left 1
      · (intro w hSw; (try dsimp only at hSw); go_simp <;> with_reducible rfl)
      try simp only [Act.put, List.setIfInBounds_toArray, List.set_cons_zero, List.set_cons_succ, List.getElem_toArray, List.getElem_cons_succ, List.getElem_cons_zero]
      refine wpAnyH_take (i := 1) (v := ?_) rfl (by kernel_rfl) (by kernel_rfl) (by kernel_rfl) (fun _ _ _ h => h) (Or.inl ⟨by rfl, ?_⟩) hHeld ?_
      rotate_left 1
      · (intro w hSw; (try dsimp only at hSw); go_simp <;> with_reducible rfl)
      try simp only [Act.put, List.setIfInBounds_toArray, List.set_cons_zero, List.set_cons_succ, List.getElem_toArray, List.getElem_cons_succ, List.getElem_cons_zero]
      refine wpAnyH_take (i := 2) (v := ?_) rfl (by kernel_rfl) (by kernel_rfl) (by kernel_rfl) (fun _ _ _ h => h) (Or.inl ⟨by rfl, ?_⟩) hHeld ?_
      rotate_left 1
      · (intro w hSw; (try dsimp only at hSw); go_simp <;> with_reducible rfl)
      try simp only [Act.put, List.setIfInBounds_toArray, List.set_cons_zero, List.set_cons_succ, List.getElem_toArray, List.getElem_cons_succ, List.getElem_cons_zero]
      refine wpAnyH_take (i := 3) (v := ?_) rfl (by kernel_rfl) (by kernel_rfl) (by kernel_rfl) (fun _ _ _ h => h) (Or.inl ⟨by rfl, ?_⟩) hHeld ?_
      rotate_left 1
      · (intro w hSw; (try dsimp only at hSw); go_simp <;> with_reducible rfl)
      try simp only [Act.put, List.setIfInBounds_toArray, List.set_cons_zero, List.set_cons_succ, List.getElem_toArray, List.getElem_cons_succ, List.getElem_cons_zero]
      refine wpAnyH_take (i := 4) (v := ?_) rfl (by kernel_rfl) (by kernel_rfl) (by kernel_rfl) (fun _ _ _ h => h) (Or.inl ⟨by rfl, ?_⟩) hHeld ?_
      rotate_left 1
      · (intro w hSw; (try dsimp only at hSw); go_simp <;> with_reducible rfl)
      try simp only [Act.put, List.setIfInBounds_toArray, List.set_cons_zero, List.set_cons_succ, List.getElem_toArray, List.getElem_cons_succ, List.getElem_cons_zero]
      refine wpAnyH_take (i := 5) (v := ?_) rfl (by kernel_rfl) (by kernel_rfl) (by kernel_rfl) (fun _ _ _ h => h) (Or.inl ⟨by rfl, ?_⟩) hHeld ?_
      rotate_left 1
      · (intro w hSw; (try dsimp only at hSw); go_simp <;> with_reducible rfl)
      try simp only [Act.put, List.setIfInBounds_toArray, List.set_cons_zero, List.set_cons_succ, List.getElem_toArray, List.getElem_cons_succ, List.getElem_cons_zero]
      refine wpAnyH_take (i := 6) (v := ?_) rfl (by kernel_rfl) (by kernel_rfl) (by kernel_rfl) (fun _ _ _ h => h) (Or.inl ⟨by rfl, ?_⟩) hHeld ?_
      rotate_left 1
      · (intro w hSw; (try dsimp only at hSw); go_simp <;> with_reducible rfl)
      try simp only [Act.put, List.setIfInBounds_toArray, List.set_cons_zero, List.set_cons_succ, List.getElem_toArray, List.getElem_cons_succ, List.getElem_cons_zero]
      refine wpAnyH_done (by kernel_rfl) ?_ _
      clear hHeld
      clear HEB
      go_wp2_with fail
      generalize we.drew = wf at *
      have HTN := hid (HTD.out.keep0 ((Fr.refl (fun _ => False) wf).drew))
      have HFN := hid (HFD.out.trans ((Fr.refl (tfp p m E) wf).drew))
      have HYN := hid (HYD.out.keep ((Fr.refl (fun _ => False) wf).drew) (fun h => h))
      have HRN := hid (row_keep HRD.out ((Fr.refl (fun _ => False) wf).drew) (fun _ _ h => h))
      clear HTD HFD HYD HRD
      have HTD := HTN
      have HFD := HFN
      have HYD := HYN
      have HRD := HRN
      clear HTN HFN HYN HRN
      have HEB := hid (HTD.out.ent oa _ (if_pos rfl)).1
      have HEV := hid (HTD.out.ent oa _ (if_pos rfl)).2
      have HYQ : Hid (y ≠ q) := hid (fun e => by obtain ⟨_, _, g, _⟩ := HEV.out; exact absurd ((e ▸ HYD.out).type g) (by decide))
      have HRQ : Hid (∀ k, k ∈ footOf (.slice ao nb cap) → k ≠ q) := hid (fun k hk e => row_no HRD.out HEV.out hk e)
      have HQO : Hid (∀ i, i < w.heap.size → i = q → tfp p m E i) := hid (fun i hi e => by omega)
      refine wp_region_held_drew (S := fun W => W.cell? ⟨hh, 1, none⟩ = some (.pointer (some ⟨q, 0, none⟩)) ∧ W.cell? ⟨y, 2, none⟩ = some (.int .i64 oc)) (by kernel_rfl) (⟨HEB.out.cell 1 rfl, HYD.out.cell 2 rfl⟩) (fun hHeld => ?_)
      refine wpAnyH_take (i := 0) (v := ?_) rfl (by kernel_rfl) (by kernel_rfl) (by kernel_rfl) (fun _ _ _ h => h) (Or.inl ⟨by rfl, ?_⟩) hHeld ?_
      rotate_left 1
      · (intro w hSw; (try dsimp only at hSw); go_simp <;> with_reducible rfl)
      try simp only [Act.put, List.setIfInBounds_toArray, List.set_cons_zero, List.set_cons_succ, List.getElem_toArray, List.getElem_cons_succ, List.getElem_cons_zero]
      refine wpAnyH_take (i := 1) (v := ?_) rfl (by kernel_rfl) (by kernel_rfl) (by kernel_rfl) (fun _ _ _ h => h) (Or.inl ⟨by rfl, ?_⟩) hHeld ?_
      rotate_left 1
      · (intro w hSw; (try dsimp only at hSw); go_simp <;> with_reducible rfl)
      try simp only [Act.put, List.setIfInBounds_toArray, List.set_cons_zero, List.set_cons_succ, List.getElem_toArray, List.getElem_cons_succ, List.getElem_cons_zero]
      refine wpAnyH_take (i := 2) (v := ?_) rfl (by kernel_rfl) (by kernel_rfl) (by kernel_rfl) (fun _ _ _ h => h) (Or.inl ⟨by rfl, ?_⟩) hHeld ?_
      rotate_left 1
      · (intro w hSw; (try dsimp only at hSw); go_simp <;> with_reducible rfl)
      try simp only [Act.put, List.setIfInBounds_toArray, List.set_cons_zero, List.set_cons_succ, List.getElem_toArray, List.getElem_cons_succ, List.getElem_cons_zero]
      refine wpAnyH_take (i := 3) (v := ?_) rfl (by kernel_rfl) (by kernel_rfl) (by kernel_rfl) (fun _ _ _ h => h) (Or.inl ⟨by rfl, ?_⟩) hHeld ?_
      rotate_left 1
      · (intro w hSw; (try dsimp only at hSw); go_simp <;> with_reducible rfl)
      try simp only [Act.put, List.setIfInBounds_toArray, List.set_cons_zero, List.set_cons_succ, List.getElem_toArray, List.getElem_cons_succ, List.getElem_cons_zero]
      refine wpAnyH_take (i := 4) (v := ?_) rfl (by kernel_rfl) (by kernel_rfl) (by kernel_rfl) (fun _ _ _ h => h) (Or.inl ⟨by rfl, ?_⟩) hHeld ?_
      rotate_left 1
      · (intro w hSw; (try dsimp only at hSw); go_simp <;> with_reducible rfl)
      try simp only [Act.put, List.setIfInBounds_toArray, List.set_cons_zero, List.set_cons_succ, List.getElem_toArray, List.getElem_cons_succ, List.getElem_cons_zero]
      refine wpAnyH_take (i := 5) (v := ?_) rfl (by kernel_rfl) (by kernel_rfl) (by kernel_rfl) (fun _ _ _ h => h) (Or.inl ⟨by rfl, ?_⟩) hHeld ?_
      rotate_left 1
      · (intro w hSw; (try dsimp only at hSw); go_simp <;> with_reducible rfl)
      try simp only [Act.put, List.setIfInBounds_toArray, List.set_cons_zero, List.set_cons_succ, List.getElem_toArray, List.getElem_cons_succ, List.getElem_cons_zero]
      refine wpAnyH_ready (rs := [6]) (by kernel_rfl) (by simp) ?_
      refine AllReadyH.cons rfl (fun K hK => ?_) AllReadyH.nil
      clear hHeld
      go_simp
      go_at_call 59
      with_reducible refine (HFH.out q [] _ HEV.out).mono ?_
      rintro e wh ⟨rfl, Vh, fh⟩
      have HTH := hid (HTD.out.seen (if_pos rfl) fh Vh)
      have HYH := hid (HYD.out.keep fh (fun e => HYQ.out e))
      have HBH := hid (HTH.out.ent oa _ (if_pos rfl)).1
      have HRH := hid (row_keep HRD.out fh (fun k hk e => HRQ.out k hk e))
      have HFH2 := hid (HFD.out.step fh (fun i hi e => HQO.out i hi e))
      refine hK.out _ _ (⟨HBH.out.cell 1 rfl, HYH.out.cell 2 rfl⟩) (fun hHeld => ?_)
      clear hK K
      try simp only [Act.put, List.setIfInBounds_toArray, List.set_cons_zero, List.set_cons_succ, List.getElem_toArray, List.getElem_cons_succ, List.getElem_cons_zero]
      refine wpAnyH_take (i := 7) (v := ?_) rfl (by kernel_rfl) (by kernel_rfl) (by kernel_rfl) (fun _ _ _ h => h) (Or.inl ⟨by rfl, ?_⟩) hHeld ?_
      rotate_left 1
      · (intro w hSw; (try dsimp only at hSw); go_simp <;> with_reducible rfl)
      try simp only [Act.put, List.setIfInBounds_toArray, List.set_cons_zero, List.set_cons_succ, List.getElem_toArray, List.getElem_cons_succ, List.getElem_cons_zero]
      refine wpAnyH_take (i := 8) (v := ?_) rfl (by kernel_rfl) (by kernel_rfl) (by kernel_rfl) (fun _ _ _ h => h) (Or.inl ⟨by rfl, ?_⟩) hHeld ?_
      rotate_left 1
      · (intro w hSw; (try dsimp only at hSw); go_simp <;> with_reducible rfl)
      try simp only [Act.put, List.setIfInBounds_toArray, List.set_cons_zero, List.set_cons_succ, List.getElem_toArray, List.getElem_cons_succ, List.getElem_cons_zero]
      refine wpAnyH_take (i := 9) (v := ?_) rfl (by kernel_rfl) (by kernel_rfl) (by kernel_rfl) (fun _ _ _ h => h) (Or.inl ⟨by rfl, ?_⟩) hHeld ?_
      rotate_left 1
      · (intro w hSw; (try dsimp only at hSw); go_simp <;> with_reducible rfl)
      try simp only [Act.put, List.setIfInBounds_toArray, List.set_cons_zero, List.set_cons_succ, List.getElem_toArray, List.getElem_cons_succ, List.getElem_cons_zero]
      refine wpAnyH_take (i := 10) (v := ?_) rfl (by kernel_rfl) (by kernel_rfl) (by kernel_rfl) (fun _ _ _ h => h) (Or.inl ⟨by rfl, ?_⟩) hHeld ?_
      rotate_left 1
      · (intro w hSw; (try dsimp only at hSw); go_simp <;> with_reducible rfl)
      try simp only [Act.put, List.setIfInBounds_toArray, List.set_cons_zero, List.set_cons_succ, List.getElem_toArray, List.getElem_cons_succ, List.getElem_cons_zero]
      refine wpAnyH_take (i := 11) (v := ?_) rfl (by kernel_rfl) (by kernel_rfl) (by kernel_rfl) (fun _ _ _ h => h) (Or.inl ⟨by rfl, ?_⟩) hHeld ?_
      rotate_left 1
      · (intro w hSw; (try dsimp only at hSw); go_simp <;> with_reducible rfl)
      try simp only [Act.put, List.setIfInBounds_toArray, List.set_cons_zero, List.set_cons_succ, List.getElem_toArray, List.getElem_cons_succ, List.getElem_cons_zero]
      refine wpAnyH_done (by kernel_rfl) ?_ _
      clear hHeld
      have hy3 := HYH.out.cell (i := 3) rfl
      go_wp2_with fail
      go_ret3
      refine ⟨.slice ao nb cap, _, ?_, ?_, HA4.out, HTH.out, fun k => ?_, fun b hb => ?_, HFH2.out⟩
      · show _ = Ending.returned (.tuple #[_, .bool (freshH (AB E oa) ob oc), _])
        rw [HAB.out]
        show _ = Ending.returned (.tuple #[_, .bool (if el < ob then isF [] oc else if el = ob then isF eL oc else false), _])
        rw [if_pos HLT.out]
        rw [HER.out]; rfl
      · show World.ownsRow _ _ _ _ _ obs.length (obs.map _)
        rw [← HNB.out]; exact HRH.out
      · show AB _ k = if k = oa then some (nextH (AB E oa) ob oc) else AB E k
        by_cases hka : k = oa
        · rw [if_pos hka, HAB.out]; simp [AB, nextH, hka, HLT.out]
        · rw [if_neg hka]; simp [AB, hka]
      · rcases hb with hb | hb | ⟨k, e, he, hb⟩
        · exact .inl (.inl hb)
        · exact .inl (.inr (.inl hb))
        · by_cases hka : k = oa
          · simp only [if_pos hka, Option.some.injEq] at he; subst he; rcases hb with hb | hb <;> (right; simp only at hb; omega)
          · simp only [if_neg hka] at he; exact .inl (.inr (.inr ⟨k, e, he, hb⟩))
    · subst heq
      have dlt : decide (el < el) = false := by simp
      have HAB : Hid (AB E oa = some (el, eL)) := hid (by unfold AB; rw [HE.out]; rfl)
      refine wp_region_held_drew (S := fun W => W.cell? ⟨p, 12, none⟩ = some (.map (some m)) ∧ W.cell? ⟨y, 0, none⟩ = some (.int .i64 oa) ∧ MapIs W m (Value.int .i64) M) (by kernel_rfl) (⟨HTD.out.blk.cell 12 rfl, HYD.out.cell 0 rfl, HMD.out⟩) (fun hHeld => ?_)
      refine wpAnyH_take (i := 0) (v := ?_) rfl (by kernel_rfl) (by kernel_rfl) (by kernel_rfl) (fun _ _ _ h => h) (Or.inl ⟨by rfl, ?_⟩) hHeld ?_
      rotate_left 1
      · (intro w hSw; (try dsimp only at hSw); go_simp <;> with_reducible rfl)
      try simp only [Act.put, List.setIfInBounds_toArray, List.set_cons_zero, List.set_cons_succ, List.getElem_toArray, List.getElem_cons_succ, List.getElem_cons_zero]
      refine wpAnyH_take (i := 1) (v := ?_) rfl (by kernel_rfl) (by kernel_rfl) (by kernel_rfl) (fun _ _ _ h => h) (Or.inl ⟨by rfl, ?_⟩) hHeld ?_
      rotate_left 1
      · (intro w hSw; (try dsimp only at hSw); go_simp <;> with_reducible rfl)
      try simp only [Act.put, List.setIfInBounds_toArray, List.set_cons_zero, List.set_cons_succ, List.getElem_toArray, List.getElem_cons_succ, List.getElem_cons_zero]
      refine wpAnyH_take (i := 2) (v := ?_) rfl (by kernel_rfl) (by kernel_rfl) (by kernel_rfl) (fun _ _ _ h => h) (Or.inl ⟨by rfl, ?_⟩) hHeld ?_
      rotate_left 1
      · (intro w hSw; (try dsimp only at hSw); go_simp <;> with_reducible rfl)
      try simp only [Act.put, List.setIfInBounds_toArray, List.set_cons_zero, List.set_cons_succ, List.getElem_toArray, List.getElem_cons_succ, List.getElem_cons_zero]
      refine wpAnyH_take (i := 3) (v := ?_) rfl (by kernel_rfl) (by kernel_rfl) (by kernel_rfl) (fun _ _ _ h => h) (Or.inl ⟨by rfl, ?_⟩) hHeld ?_
      rotate_left 1
      · (intro w hSw; (try dsimp only at hSw); go_simp <;> with_reducible rfl)
      try simp only [Act.put, List.setIfInBounds_toArray, List.set_cons_zero, List.set_cons_succ, List.getElem_toArray, List.getElem_cons_succ, List.getElem_cons_zero]
      refine wpAnyH_take (i := 4) (v := ?_) rfl (by kernel_rfl) (by kernel_rfl) (by kernel_rfl) (fun _ _ _ h => h) (Or.inl ⟨by rfl, ?_⟩) hHeld ?_
      rotate_left 1
      · (intro w hSw; (try dsimp only at hSw); go_simp <;> with_reducible rfl)
      try simp only [Act.put, List.setIfInBounds_toArray, List.set_cons_zero, List.set_cons_succ, List.getElem_toArray, List.getElem_cons_succ, List.getElem_cons_zero]
      refine wpAnyH_take (i := 5) (v := ?_) rfl (by kernel_rfl) (by kernel_rfl) (by kernel_rfl) (fun _ _ _ h => h) (Or.inl ⟨by rfl, ?_⟩) hHeld ?_
      rotate_left 1
      · (intro w hSw; (try dsimp only at hSw); go_simp <;> with_reducible rfl)
      try simp only [Act.put, List.setIfInBounds_toArray, List.set_cons_zero, List.set_cons_succ, List.getElem_toArray, List.getElem_cons_succ, List.getElem_cons_zero]
      refine wpAnyH_take (i := 6) (v := .pointer (some ⟨eh, 0, none⟩)) rfl (by kernel_rfl) (by kernel_rfl) (by kernel_rfl) (fun _ _ _ h => h) (yields_lookup1 (by rfl) (.tmp 45) (.tmp 47) 70 (by rfl) (int_keyOk Try.underlying3) Try.underlying70 zeroHeard (fun W h => h.2.2) oa (by rfl) (by rfl) _ (by rw [HLN.out]; rfl)) hHeld ?_
      try simp only [Act.put, List.setIfInBounds_toArray, List.set_cons_zero, List.set_cons_succ, List.getElem_toArray, List.getElem_cons_succ, List.getElem_cons_zero]
      refine wpAnyH_take (i := 7) (v := ?_) rfl (by kernel_rfl) (by kernel_rfl) (by kernel_rfl) (fun _ _ _ h => h) (Or.inl ⟨by rfl, ?_⟩) hHeld ?_
      rotate_left 1
      · (intro w hSw; (try dsimp only at hSw); go_simp <;> with_reducible rfl)
      try simp only [Act.put, List.setIfInBounds_toArray, List.set_cons_zero, List.set_cons_succ, List.getElem_toArray, List.getElem_cons_succ, List.getElem_cons_zero]
      refine wpAnyH_done (by kernel_rfl) ?_ _
      clear hHeld
      go_wp2_with fail
      generalize w6.drew = wa0 at *
      have HTN := hid (HTD.out.keep0 ((Fr.refl (fun _ => False) wa0).drew))
      have HFN := hid (HFD.out.trans ((Fr.refl (tfp p m E) wa0).drew))
      have HYN := hid (HYD.out.keep ((Fr.refl (fun _ => False) wa0).drew) (fun h => h))
      have HRN := hid (row_keep HRD.out ((Fr.refl (fun _ => False) wa0).drew) (fun _ _ h => h))
      have HMN := hid (HMD.out.keep ((Fr.refl (fun _ => False) wa0).drew) (fun h => h))
      have HEB2 := hid (HEB.out.keep ((Fr.refl (fun _ => False) wa0).drew) (fun h => h))
      clear HEB
      have HEB := HEB2
      clear HEB2
      clear HTD HFD HYD HRD HMD
      have HTD := HTN
      have HFD := HFN
      have HYD := HYN
      have HRD := HRN
      have HMD := HMN
      clear HTN HFN HYN HRN HMN
      refine wp_region_held_drew (S := fun W => W.cell? ⟨y, 1, none⟩ = some (.int .i64 el) ∧ W.cell? ⟨eh, 0, none⟩ = some (.int .i64 el)) (by kernel_rfl) (⟨HYD.out.cell 1 rfl, HEB.out.cell 0 rfl⟩) (fun hHeld => ?_)
      refine wpAnyH_take (i := 0) (v := ?_) rfl (by kernel_rfl) (by kernel_rfl) (by kernel_rfl) (fun _ _ _ h => h) (Or.inl ⟨by rfl, ?_⟩) hHeld ?_
      rotate_left 1
      · (intro w hSw; (try dsimp only at hSw); go_simp <;> with_reducible rfl)
      try simp only [Act.put, List.setIfInBounds_toArray, List.set_cons_zero, List.set_cons_succ, List.getElem_toArray, List.getElem_cons_succ, List.getElem_cons_zero]
      refine wpAnyH_take (i := 1) (v := ?_) rfl (by kernel_rfl) (by kernel_rfl) (by kernel_rfl) (fun _ _ _ h => h) (Or.inl ⟨by rfl, ?_⟩) hHeld ?_
      rotate_left 1
      · (intro w hSw; (try dsimp only at hSw); go_simp <;> with_reducible rfl)
      try simp only [Act.put, List.setIfInBounds_toArray, List.set_cons_zero, List.set_cons_succ, List.getElem_toArray, List.getElem_cons_succ, List.getElem_cons_zero]
      refine wpAnyH_take (i := 2) (v := ?_) rfl (by kernel_rfl) (by kernel_rfl) (by kernel_rfl) (fun _ _ _ h => h) (Or.inl ⟨by rfl, ?_⟩) hHeld ?_
      rotate_left 1
      · (intro w hSw; (try dsimp only at hSw); go_simp <;> with_reducible rfl)
      try simp only [Act.put, List.setIfInBounds_toArray, List.set_cons_zero, List.set_cons_succ, List.getElem_toArray, List.getElem_cons_succ, List.getElem_cons_zero]
      refine wpAnyH_take (i := 3) (v := ?_) rfl (by kernel_rfl) (by kernel_rfl) (by kernel_rfl) (fun _ _ _ h => h) (Or.inl ⟨by rfl, ?_⟩) hHeld ?_
      rotate_left 1
      · (intro w hSw; (try dsimp only at hSw); go_simp <;> with_reducible rfl)
      try simp only [Act.put, List.setIfInBounds_toArray, List.set_cons_zero, List.set_cons_succ, List.getElem_toArray, List.getElem_cons_succ, List.getElem_cons_zero]
      refine wpAnyH_take (i := 4) (v := ?_) rfl (by kernel_rfl) (by kernel_rfl) (by kernel_rfl) (fun _ _ _ h => h) (Or.inl ⟨by rfl, ?_⟩) hHeld ?_
      rotate_left 1
      · (intro w hSw; (try dsimp only at hSw); go_simp <;> with_reducible rfl)
      try simp only [Act.put, List.setIfInBounds_toArray, List.set_cons_zero, List.set_cons_succ, List.getElem_toArray, List.getElem_cons_succ, List.getElem_cons_zero]
      refine wpAnyH_take (i := 5) (v := ?_) rfl (by kernel_rfl) (by kernel_rfl) (by kernel_rfl) (fun _ _ _ h => h) (Or.inl ⟨by rfl, ?_⟩) hHeld ?_
      rotate_left 1
      · (intro w hSw; (try dsimp only at hSw); go_simp <;> with_reducible rfl)
      try simp only [Act.put, List.setIfInBounds_toArray, List.set_cons_zero, List.set_cons_succ, List.getElem_toArray, List.getElem_cons_succ, List.getElem_cons_zero]
      refine wpAnyH_take (i := 6) (v := ?_) rfl (by kernel_rfl) (by kernel_rfl) (by kernel_rfl) (fun _ _ _ h => h) (Or.inl ⟨by rfl, ?_⟩) hHeld ?_
      rotate_left 1
      · (intro w hSw; (try dsimp only at hSw); go_simp <;> with_reducible rfl)
      try simp only [Act.put, List.setIfInBounds_toArray, List.set_cons_zero, List.set_cons_succ, List.getElem_toArray, List.getElem_cons_succ, List.getElem_cons_zero]
      refine wpAnyH_take (i := 7) (v := ?_) rfl (by kernel_rfl) (by kernel_rfl) (by kernel_rfl) (fun _ _ _ h => h) (Or.inl ⟨by rfl, ?_⟩) hHeld ?_
      rotate_left 1
      · (intro w hSw; (try dsimp only at hSw); go_simp <;> with_reducible rfl)
      try simp only [Act.put, List.setIfInBounds_toArray, List.set_cons_zero, List.set_cons_succ, List.getElem_toArray, List.getElem_cons_succ, List.getElem_cons_zero]
      refine wpAnyH_take (i := 8) (v := ?_) rfl (by kernel_rfl) (by kernel_rfl) (by kernel_rfl) (fun _ _ _ h => h) (Or.inl ⟨by rfl, ?_⟩) hHeld ?_
      rotate_left 1
      · (intro w hSw; (try dsimp only at hSw); go_simp <;> with_reducible rfl)
      try simp only [Act.put, List.setIfInBounds_toArray, List.set_cons_zero, List.set_cons_succ, List.getElem_toArray, List.getElem_cons_succ, List.getElem_cons_zero]
      refine wpAnyH_take (i := 9) (v := ?_) rfl (by kernel_rfl) (by kernel_rfl) (by kernel_rfl) (fun _ _ _ h => h) (Or.inl ⟨by rfl, ?_⟩) hHeld ?_
      rotate_left 1
      · (intro w hSw; (try dsimp only at hSw); go_simp <;> with_reducible rfl)
      try simp only [Act.put, List.setIfInBounds_toArray, List.set_cons_zero, List.set_cons_succ, List.getElem_toArray, List.getElem_cons_succ, List.getElem_cons_zero]
      refine wpAnyH_take (i := 10) (v := ?_) rfl (by kernel_rfl) (by kernel_rfl) (by kernel_rfl) (fun _ _ _ h => h) (Or.inl ⟨by rfl, ?_⟩) hHeld ?_
      rotate_left 1
      · (intro w hSw; (try dsimp only at hSw); go_simp <;> with_reducible rfl)
      try simp only [Act.put, List.setIfInBounds_toArray, List.set_cons_zero, List.set_cons_succ, List.getElem_toArray, List.getElem_cons_succ, List.getElem_cons_zero]
      refine wpAnyH_done (by kernel_rfl) ?_ _
      clear hHeld
      go_wp2_with fail
      clear dlt
      generalize wa0.drew = wb0 at *
      have HTN := hid (HTD.out.keep0 ((Fr.refl (fun _ => False) wb0).drew))
      have HFN := hid (HFD.out.trans ((Fr.refl (tfp p m E) wb0).drew))
      have HYN := hid (HYD.out.keep ((Fr.refl (fun _ => False) wb0).drew) (fun h => h))
      have HRN := hid (row_keep HRD.out ((Fr.refl (fun _ => False) wb0).drew) (fun _ _ h => h))
      have HMN := hid (HMD.out.keep ((Fr.refl (fun _ => False) wb0).drew) (fun h => h))
      have HEB2 := hid (HEB.out.keep ((Fr.refl (fun _ => False) wb0).drew) (fun h => h))
      clear HEB
      have HEB := HEB2
      clear HEB2
      clear HTD HFD HYD HRD HMD
      have HTD := HTN
      have HFD := HFN
      have HYD := HYN
      have HRD := HRN
      have HMD := HMN
      clear HTN HFN HYN HRN HMN
      refine wp_region_held_drew (S := fun W => W.cell? ⟨y, 1, none⟩ = some (.int .i64 el) ∧ W.cell? ⟨eh, 0, none⟩ = some (.int .i64 el)) (by kernel_rfl) (⟨HYD.out.cell 1 rfl, HEB.out.cell 0 rfl⟩) (fun hHeld => ?_)
      refine wpAnyH_take (i := 0) (v := ?_) rfl (by kernel_rfl) (by kernel_rfl) (by kernel_rfl) (fun _ _ _ h => h) (Or.inl ⟨by rfl, ?_⟩) hHeld ?_
      rotate_left 1
      · (intro w hSw; (try dsimp only at hSw); go_simp <;> with_reducible rfl)
      try simp only [Act.put, List.setIfInBounds_toArray, List.set_cons_zero, List.set_cons_succ, List.getElem_toArray, List.getElem_cons_succ, List.getElem_cons_zero]
      refine wpAnyH_take (i := 1) (v := ?_) rfl (by kernel_rfl) (by kernel_rfl) (by kernel_rfl) (fun _ _ _ h => h) (Or.inl ⟨by rfl, ?_⟩) hHeld ?_
      rotate_left 1
      · (intro w hSw; (try dsimp only at hSw); go_simp <;> with_reducible rfl)
      try simp only [Act.put, List.setIfInBounds_toArray, List.set_cons_zero, List.set_cons_succ, List.getElem_toArray, List.getElem_cons_succ, List.getElem_cons_zero]
      refine wpAnyH_take (i := 2) (v := ?_) rfl (by kernel_rfl) (by kernel_rfl) (by kernel_rfl) (fun _ _ _ h => h) (Or.inl ⟨by rfl, ?_⟩) hHeld ?_
      rotate_left 1
      · (intro w hSw; (try dsimp only at hSw); go_simp <;> with_reducible rfl)
      try simp only [Act.put, List.setIfInBounds_toArray, List.set_cons_zero, List.set_cons_succ, List.getElem_toArray, List.getElem_cons_succ, List.getElem_cons_zero]
      refine wpAnyH_take (i := 3) (v := ?_) rfl (by kernel_rfl) (by kernel_rfl) (by kernel_rfl) (fun _ _ _ h => h) (Or.inl ⟨by rfl, ?_⟩) hHeld ?_
      rotate_left 1
      · (intro w hSw; (try dsimp only at hSw); go_simp <;> with_reducible rfl)
      try simp only [Act.put, List.setIfInBounds_toArray, List.set_cons_zero, List.set_cons_succ, List.getElem_toArray, List.getElem_cons_succ, List.getElem_cons_zero]
      refine wpAnyH_take (i := 4) (v := ?_) rfl (by kernel_rfl) (by kernel_rfl) (by kernel_rfl) (fun _ _ _ h => h) (Or.inl ⟨by rfl, ?_⟩) hHeld ?_
      rotate_left 1
      · (intro w hSw; (try dsimp only at hSw); go_simp <;> with_reducible rfl)
      try simp only [Act.put, List.setIfInBounds_toArray, List.set_cons_zero, List.set_cons_succ, List.getElem_toArray, List.getElem_cons_succ, List.getElem_cons_zero]
      refine wpAnyH_take (i := 5) (v := ?_) rfl (by kernel_rfl) (by kernel_rfl) (by kernel_rfl) (fun _ _ _ h => h) (Or.inl ⟨by rfl, ?_⟩) hHeld ?_
      rotate_left 1
      · (intro w hSw; (try dsimp only at hSw); go_simp <;> with_reducible rfl)
      try simp only [Act.put, List.setIfInBounds_toArray, List.set_cons_zero, List.set_cons_succ, List.getElem_toArray, List.getElem_cons_succ, List.getElem_cons_zero]
      refine wpAnyH_take (i := 6) (v := ?_) rfl (by kernel_rfl) (by kernel_rfl) (by kernel_rfl) (fun _ _ _ h => h) (Or.inl ⟨by rfl, ?_⟩) hHeld ?_
      rotate_left 1
      · (intro w hSw; (try dsimp only at hSw); go_simp <;> with_reducible rfl)
      try simp only [Act.put, List.setIfInBounds_toArray, List.set_cons_zero, List.set_cons_succ, List.getElem_toArray, List.getElem_cons_succ, List.getElem_cons_zero]
      refine wpAnyH_done (by kernel_rfl) ?_ _
      clear hHeld
      go_wp2_with fail
      generalize wb0.drew = wf at *
      have HTN := hid (HTD.out.keep0 ((Fr.refl (fun _ => False) wf).drew))
      have HFN := hid (HFD.out.trans ((Fr.refl (tfp p m E) wf).drew))
      have HYN := hid (HYD.out.keep ((Fr.refl (fun _ => False) wf).drew) (fun h => h))
      have HRN := hid (row_keep HRD.out ((Fr.refl (fun _ => False) wf).drew) (fun _ _ h => h))
      have HMN := hid (HMD.out.keep ((Fr.refl (fun _ => False) wf).drew) (fun h => h))
      have HEB2 := hid (HEB.out.keep ((Fr.refl (fun _ => False) wf).drew) (fun h => h))
      clear HEB
      have HEB := HEB2
      clear HEB2
      clear HTD HFD HYD HRD HMD
      have HTD := HTN
      have HFD := HFN
      have HYD := HYN
      have HRD := HRN
      have HMD := HMN
      clear HTN HFN HYN HRN HMN
      have HEV := hid (HTD.out.ent oa _ HE.out).2
      have HYQ : Hid (y ≠ eq) := hid (fun e => by obtain ⟨_, _, g, _⟩ := HEV.out; exact absurd ((e ▸ HYD.out).type g) (by decide))
      have HRQ : Hid (∀ k, k ∈ footOf (.slice ao nb cap) → k ≠ eq) := hid (fun k hk e => row_no HRD.out HEV.out hk e)
      have HQO : Hid (∀ i, i < w.heap.size → i = eq → tfp p m E i) := hid (fun i _ e => .inr (.inr ⟨oa, _, HE.out, .inr e⟩))
      refine wp_region_held_drew (S := fun W => W.cell? ⟨eh, 1, none⟩ = some (.pointer (some ⟨eq, 0, none⟩)) ∧ W.cell? ⟨y, 2, none⟩ = some (.int .i64 oc)) (by kernel_rfl) (⟨HEB.out.cell 1 rfl, HYD.out.cell 2 rfl⟩) (fun hHeld => ?_)
      refine wpAnyH_take (i := 0) (v := ?_) rfl (by kernel_rfl) (by kernel_rfl) (by kernel_rfl) (fun _ _ _ h => h) (Or.inl ⟨by rfl, ?_⟩) hHeld ?_
      rotate_left 1
      · (intro w hSw; (try dsimp only at hSw); go_simp <;> with_reducible rfl)
      try simp only [Act.put, List.setIfInBounds_toArray, List.set_cons_zero, List.set_cons_succ, List.getElem_toArray, List.getElem_cons_succ, List.getElem_cons_zero]
      refine wpAnyH_take (i := 1) (v := ?_) rfl (by kernel_rfl) (by kernel_rfl) (by kernel_rfl) (fun _ _ _ h => h) (Or.inl ⟨by rfl, ?_⟩) hHeld ?_
      rotate_left 1
      · (intro w hSw; (try dsimp only at hSw); go_simp <;> with_reducible rfl)
      try simp only [Act.put, List.setIfInBounds_toArray, List.set_cons_zero, List.set_cons_succ, List.getElem_toArray, List.getElem_cons_succ, List.getElem_cons_zero]
      refine wpAnyH_take (i := 2) (v := ?_) rfl (by kernel_rfl) (by kernel_rfl) (by kernel_rfl) (fun _ _ _ h => h) (Or.inl ⟨by rfl, ?_⟩) hHeld ?_
      rotate_left 1
      · (intro w hSw; (try dsimp only at hSw); go_simp <;> with_reducible rfl)
      try simp only [Act.put, List.setIfInBounds_toArray, List.set_cons_zero, List.set_cons_succ, List.getElem_toArray, List.getElem_cons_succ, List.getElem_cons_zero]
      refine wpAnyH_take (i := 3) (v := ?_) rfl (by kernel_rfl) (by kernel_rfl) (by kernel_rfl) (fun _ _ _ h => h) (Or.inl ⟨by rfl, ?_⟩) hHeld ?_
      rotate_left 1
      · (intro w hSw; (try dsimp only at hSw); go_simp <;> with_reducible rfl)
      try simp only [Act.put, List.setIfInBounds_toArray, List.set_cons_zero, List.set_cons_succ, List.getElem_toArray, List.getElem_cons_succ, List.getElem_cons_zero]
      refine wpAnyH_take (i := 4) (v := ?_) rfl (by kernel_rfl) (by kernel_rfl) (by kernel_rfl) (fun _ _ _ h => h) (Or.inl ⟨by rfl, ?_⟩) hHeld ?_
      rotate_left 1
      · (intro w hSw; (try dsimp only at hSw); go_simp <;> with_reducible rfl)
      try simp only [Act.put, List.setIfInBounds_toArray, List.set_cons_zero, List.set_cons_succ, List.getElem_toArray, List.getElem_cons_succ, List.getElem_cons_zero]
      refine wpAnyH_take (i := 5) (v := ?_) rfl (by kernel_rfl) (by kernel_rfl) (by kernel_rfl) (fun _ _ _ h => h) (Or.inl ⟨by rfl, ?_⟩) hHeld ?_
      rotate_left 1
      · (intro w hSw; (try dsimp only at hSw); go_simp <;> with_reducible rfl)
      try simp only [Act.put, List.setIfInBounds_toArray, List.set_cons_zero, List.set_cons_succ, List.getElem_toArray, List.getElem_cons_succ, List.getElem_cons_zero]
      refine wpAnyH_ready (rs := [6]) (by kernel_rfl) (by simp) ?_
      refine AllReadyH.cons rfl (fun K hK => ?_) AllReadyH.nil
      clear hHeld
      go_simp
      go_at_call 59
      with_reducible refine (HFH.out eq eL _ HEV.out).mono ?_
      rintro e wh ⟨rfl, Vh, fh⟩
      have HTH := hid (HTD.out.seen HE.out fh Vh)
      have HYH := hid (HYD.out.keep fh (fun e => HYQ.out e))
      have HBH := hid (HTH.out.ent oa _ (if_pos rfl)).1
      have HRH := hid (row_keep HRD.out fh (fun k hk e => HRQ.out k hk e))
      have HFH2 := hid (HFD.out.step fh (fun i hi e => HQO.out i hi e))
      refine hK.out _ _ (⟨HBH.out.cell 1 rfl, HYH.out.cell 2 rfl⟩) (fun hHeld => ?_)
      clear hK K
      try simp only [Act.put, List.setIfInBounds_toArray, List.set_cons_zero, List.set_cons_succ, List.getElem_toArray, List.getElem_cons_succ, List.getElem_cons_zero]
      refine wpAnyH_take (i := 7) (v := ?_) rfl (by kernel_rfl) (by kernel_rfl) (by kernel_rfl) (fun _ _ _ h => h) (Or.inl ⟨by rfl, ?_⟩) hHeld ?_
      rotate_left 1
      · (intro w hSw; (try dsimp only at hSw); go_simp <;> with_reducible rfl)
      try simp only [Act.put, List.setIfInBounds_toArray, List.set_cons_zero, List.set_cons_succ, List.getElem_toArray, List.getElem_cons_succ, List.getElem_cons_zero]
      refine wpAnyH_take (i := 8) (v := ?_) rfl (by kernel_rfl) (by kernel_rfl) (by kernel_rfl) (fun _ _ _ h => h) (Or.inl ⟨by rfl, ?_⟩) hHeld ?_
      rotate_left 1
      · (intro w hSw; (try dsimp only at hSw); go_simp <;> with_reducible rfl)
      try simp only [Act.put, List.setIfInBounds_toArray, List.set_cons_zero, List.set_cons_succ, List.getElem_toArray, List.getElem_cons_succ, List.getElem_cons_zero]
      refine wpAnyH_take (i := 9) (v := ?_) rfl (by kernel_rfl) (by kernel_rfl) (by kernel_rfl) (fun _ _ _ h => h) (Or.inl ⟨by rfl, ?_⟩) hHeld ?_
      rotate_left 1
      · (intro w hSw; (try dsimp only at hSw); go_simp <;> with_reducible rfl)
      try simp only [Act.put, List.setIfInBounds_toArray, List.set_cons_zero, List.set_cons_succ, List.getElem_toArray, List.getElem_cons_succ, List.getElem_cons_zero]
      refine wpAnyH_take (i := 10) (v := ?_) rfl (by kernel_rfl) (by kernel_rfl) (by kernel_rfl) (fun _ _ _ h => h) (Or.inl ⟨by rfl, ?_⟩) hHeld ?_
      rotate_left 1
      · (intro w hSw; (try dsimp only at hSw); go_simp <;> with_reducible rfl)
      try simp only [Act.put, List.setIfInBounds_toArray, List.set_cons_zero, List.set_cons_succ, List.getElem_toArray, List.getElem_cons_succ, List.getElem_cons_zero]
      refine wpAnyH_take (i := 11) (v := ?_) rfl (by kernel_rfl) (by kernel_rfl) (by kernel_rfl) (fun _ _ _ h => h) (Or.inl ⟨by rfl, ?_⟩) hHeld ?_
      rotate_left 1
      · (intro w hSw; (try dsimp only at hSw); go_simp <;> with_reducible rfl)
      try simp only [Act.put, List.setIfInBounds_toArray, List.set_cons_zero, List.set_cons_succ, List.getElem_toArray, List.getElem_cons_succ, List.getElem_cons_zero]
      refine wpAnyH_done (by kernel_rfl) ?_ _
      clear hHeld
      have hy3 := HYH.out.cell (i := 3) rfl
      go_wp2_with fail
      go_ret3
      refine ⟨.slice ao nb cap, _, ?_, ?_, HA4.out, HTH.out, fun k => ?_, fun b hb => ?_, HFH2.out⟩
      · show _ = Ending.returned (.tuple #[_, .bool (freshH (AB E oa) el oc), _])
        rw [HAB.out]
        show _ = Ending.returned (.tuple #[_, .bool (if el < el then isF [] oc else if el = el then isF eL oc else false), _])
        rw [if_neg (by omega), if_pos rfl, HER.out]; rfl
      · show World.ownsRow _ _ _ _ _ obs.length (obs.map _)
        rw [← HNB.out]; exact HRH.out
      · show AB _ k = if k = oa then some (nextH (AB E oa) el oc) else AB E k
        by_cases hka : k = oa
        · rw [if_pos hka, HAB.out]; simp [AB, nextH, hka]
        · rw [if_neg hka]; simp [AB, hka]
      · rcases hb with hb | hb | ⟨k, e, he, hb⟩
        · exact .inl (.inl hb)
        · exact .inl (.inr (.inl hb))
        · by_cases hka : k = oa
          · simp only [if_pos hka, Option.some.injEq] at he; subst he; exact .inl (.inr (.inr ⟨oa, _, HE.out, hb⟩))
          · simp only [if_neg hka] at he; exact .inl (.inr (.inr ⟨k, e, he, hb⟩))
    · have dlt : decide (el < ob) = false := decide_eq_false (by omega)
      have dne : (ob == el) = false := by simp; omega
      have HGT := hid hgt
      clear hgt
      have HAB : Hid (AB E oa = some (el, eL)) := hid (by unfold AB; rw [HE.out]; rfl)
      refine wp_region_held_drew (S := fun W => W.cell? ⟨p, 12, none⟩ = some (.map (some m)) ∧ W.cell? ⟨y, 0, none⟩ = some (.int .i64 oa) ∧ MapIs W m (Value.int .i64) M) (by kernel_rfl) (⟨HTD.out.blk.cell 12 rfl, HYD.out.cell 0 rfl, HMD.out⟩) (fun hHeld => ?_)
      refine wpAnyH_take (i := 0) (v := ?_) rfl (by kernel_rfl) (by kernel_rfl) (by kernel_rfl) (fun _ _ _ h => h) (Or.inl ⟨by rfl, ?_⟩) hHeld ?_
      rotate_left 1
      · (intro w hSw; (try dsimp only at hSw); go_simp <;> with_reducible rfl)
      try simp only [Act.put, List.setIfInBounds_toArray, List.set_cons_zero, List.set_cons_succ, List.getElem_toArray, List.getElem_cons_succ, List.getElem_cons_zero]
      refine wpAnyH_take (i := 1) (v := ?_) rfl (by kernel_rfl) (by kernel_rfl) (by kernel_rfl) (fun _ _ _ h => h) (Or.inl ⟨by rfl, ?_⟩) hHeld ?_
      rotate_left 1
      · (intro w hSw; (try dsimp only at hSw); go_simp <;> with_reducible rfl)
      try simp only [Act.put, List.setIfInBounds_toArray, List.set_cons_zero, List.set_cons_succ, List.getElem_toArray, List.getElem_cons_succ, List.getElem_cons_zero]
      refine wpAnyH_take (i := 2) (v := ?_) rfl (by kernel_rfl) (by kernel_rfl) (by kernel_rfl) (fun _ _ _ h => h) (Or.inl ⟨by rfl, ?_⟩) hHeld ?_
      rotate_left 1
      · (intro w hSw; (try dsimp only at hSw); go_simp <;> with_reducible rfl)
      try simp only [Act.put, List.setIfInBounds_toArray, List.set_cons_zero, List.set_cons_succ, List.getElem_toArray, List.getElem_cons_succ, List.getElem_cons_zero]
      refine wpAnyH_take (i := 3) (v := ?_) rfl (by kernel_rfl) (by kernel_rfl) (by kernel_rfl) (fun _ _ _ h => h) (Or.inl ⟨by rfl, ?_⟩) hHeld ?_
      rotate_left 1
      · (intro w hSw; (try dsimp only at hSw); go_simp <;> with_reducible rfl)
      try simp only [Act.put, List.setIfInBounds_toArray, List.set_cons_zero, List.set_cons_succ, List.getElem_toArray, List.getElem_cons_succ, List.getElem_cons_zero]
      refine wpAnyH_take (i := 4) (v := ?_) rfl (by kernel_rfl) (by kernel_rfl) (by kernel_rfl) (fun _ _ _ h => h) (Or.inl ⟨by rfl, ?_⟩) hHeld ?_
      rotate_left 1
      · (intro w hSw; (try dsimp only at hSw); go_simp <;> with_reducible rfl)
      try simp only [Act.put, List.setIfInBounds_toArray, List.set_cons_zero, List.set_cons_succ, List.getElem_toArray, List.getElem_cons_succ, List.getElem_cons_zero]
      refine wpAnyH_take (i := 5) (v := ?_) rfl (by kernel_rfl) (by kernel_rfl) (by kernel_rfl) (fun _ _ _ h => h) (Or.inl ⟨by rfl, ?_⟩) hHeld ?_
      rotate_left 1
      · (intro w hSw; (try dsimp only at hSw); go_simp <;> with_reducible rfl)
      try simp only [Act.put, List.setIfInBounds_toArray, List.set_cons_zero, List.set_cons_succ, List.getElem_toArray, List.getElem_cons_succ, List.getElem_cons_zero]
      refine wpAnyH_take (i := 6) (v := .pointer (some ⟨eh, 0, none⟩)) rfl (by kernel_rfl) (by kernel_rfl) (by kernel_rfl) (fun _ _ _ h => h) (yields_lookup1 (by rfl) (.tmp 45) (.tmp 47) 70 (by rfl) (int_keyOk Try.underlying3) Try.underlying70 zeroHeard (fun W h => h.2.2) oa (by rfl) (by rfl) _ (by rw [HLN.out]; rfl)) hHeld ?_
      try simp only [Act.put, List.setIfInBounds_toArray, List.set_cons_zero, List.set_cons_succ, List.getElem_toArray, List.getElem_cons_succ, List.getElem_cons_zero]
      refine wpAnyH_take (i := 7) (v := ?_) rfl (by kernel_rfl) (by kernel_rfl) (by kernel_rfl) (fun _ _ _ h => h) (Or.inl ⟨by rfl, ?_⟩) hHeld ?_
      rotate_left 1
      · (intro w hSw; (try dsimp only at hSw); go_simp <;> with_reducible rfl)
      try simp only [Act.put, List.setIfInBounds_toArray, List.set_cons_zero, List.set_cons_succ, List.getElem_toArray, List.getElem_cons_succ, List.getElem_cons_zero]
      refine wpAnyH_done (by kernel_rfl) ?_ _
      clear hHeld
      go_wp2_with fail
      generalize w6.drew = wa0 at *
      have HTN := hid (HTD.out.keep0 ((Fr.refl (fun _ => False) wa0).drew))
      have HFN := hid (HFD.out.trans ((Fr.refl (tfp p m E) wa0).drew))
      have HYN := hid (HYD.out.keep ((Fr.refl (fun _ => False) wa0).drew) (fun h => h))
      have HRN := hid (row_keep HRD.out ((Fr.refl (fun _ => False) wa0).drew) (fun _ _ h => h))
      have HMN := hid (HMD.out.keep ((Fr.refl (fun _ => False) wa0).drew) (fun h => h))
      have HEB2 := hid (HEB.out.keep ((Fr.refl (fun _ => False) wa0).drew) (fun h => h))
      clear HEB
      have HEB := HEB2
      clear HEB2
      clear HTD HFD HYD HRD HMD
      have HTD := HTN
      have HFD := HFN
      have HYD := HYN
      have HRD := HRN
      have HMD := HMN
      clear HTN HFN HYN HRN HMN
      refine wp_region_held_drew (S := fun W => W.cell? ⟨y, 1, none⟩ = some (.int .i64 ob) ∧ W.cell? ⟨eh, 0, none⟩ = some (.int .i64 el)) (by kernel_rfl) (⟨HYD.out.cell 1 rfl, HEB.out.cell 0 rfl⟩) (fun hHeld => ?_)
      refine wpAnyH_take (i := 0) (v := ?_) rfl (by kernel_rfl) (by kernel_rfl) (by kernel_rfl) (fun _ _ _ h => h) (Or.inl ⟨by rfl, ?_⟩) hHeld ?_
      rotate_left 1
      · (intro w hSw; (try dsimp only at hSw); go_simp <;> with_reducible rfl)
      try simp only [Act.put, List.setIfInBounds_toArray, List.set_cons_zero, List.set_cons_succ, List.getElem_toArray, List.getElem_cons_succ, List.getElem_cons_zero]
      refine wpAnyH_take (i := 1) (v := ?_) rfl (by kernel_rfl) (by kernel_rfl) (by kernel_rfl) (fun _ _ _ h => h) (Or.inl ⟨by rfl, ?_⟩) hHeld ?_
      rotate_left 1
      · (intro w hSw; (try dsimp only at hSw); go_simp <;> with_reducible rfl)
      try simp only [Act.put, List.setIfInBounds_toArray, List.set_cons_zero, List.set_cons_succ, List.getElem_toArray, List.getElem_cons_succ, List.getElem_cons_zero]
      refine wpAnyH_take (i := 2) (v := ?_) rfl (by kernel_rfl) (by kernel_rfl) (by kernel_rfl) (fun _ _ _ h => h) (Or.inl ⟨by rfl, ?_⟩) hHeld ?_
      rotate_left 1
      · (intro w hSw; (try dsimp only at hSw); go_simp <;> with_reducible rfl)
      try simp only [Act.put, List.setIfInBounds_toArray, List.set_cons_zero, List.set_cons_succ, List.getElem_toArray, List.getElem_cons_succ, List.getElem_cons_zero]
      refine wpAnyH_take (i := 3) (v := ?_) rfl (by kernel_rfl) (by kernel_rfl) (by kernel_rfl) (fun _ _ _ h => h) (Or.inl ⟨by rfl, ?_⟩) hHeld ?_
      rotate_left 1
      · (intro w hSw; (try dsimp only at hSw); go_simp <;> with_reducible rfl)
      try simp only [Act.put, List.setIfInBounds_toArray, List.set_cons_zero, List.set_cons_succ, List.getElem_toArray, List.getElem_cons_succ, List.getElem_cons_zero]
      refine wpAnyH_take (i := 4) (v := ?_) rfl (by kernel_rfl) (by kernel_rfl) (by kernel_rfl) (fun _ _ _ h => h) (Or.inl ⟨by rfl, ?_⟩) hHeld ?_
      rotate_left 1
      · (intro w hSw; (try dsimp only at hSw); go_simp <;> with_reducible rfl)
      try simp only [Act.put, List.setIfInBounds_toArray, List.set_cons_zero, List.set_cons_succ, List.getElem_toArray, List.getElem_cons_succ, List.getElem_cons_zero]
      refine wpAnyH_take (i := 5) (v := ?_) rfl (by kernel_rfl) (by kernel_rfl) (by kernel_rfl) (fun _ _ _ h => h) (Or.inl ⟨by rfl, ?_⟩) hHeld ?_
      rotate_left 1
      · (intro w hSw; (try dsimp only at hSw); go_simp <;> with_reducible rfl)
      try simp only [Act.put, List.setIfInBounds_toArray, List.set_cons_zero, List.set_cons_succ, List.getElem_toArray, List.getElem_cons_succ, List.getElem_cons_zero]
      refine wpAnyH_take (i := 6) (v := ?_) rfl (by kernel_rfl) (by kernel_rfl) (by kernel_rfl) (fun _ _ _ h => h) (Or.inl ⟨by rfl, ?_⟩) hHeld ?_
      rotate_left 1
      · (intro w hSw; (try dsimp only at hSw); go_simp <;> with_reducible rfl)
      try simp only [Act.put, List.setIfInBounds_toArray, List.set_cons_zero, List.set_cons_succ, List.getElem_toArray, List.getElem_cons_succ, List.getElem_cons_zero]
      refine wpAnyH_take (i := 7) (v := ?_) rfl (by kernel_rfl) (by kernel_rfl) (by kernel_rfl) (fun _ _ _ h => h) (Or.inl ⟨by rfl, ?_⟩) hHeld ?_
      rotate_left 1
      · (intro w hSw; (try dsimp only at hSw); go_simp <;> with_reducible rfl)
      try simp only [Act.put, List.setIfInBounds_toArray, List.set_cons_zero, List.set_cons_succ, List.getElem_toArray, List.getElem_cons_succ, List.getElem_cons_zero]
      refine wpAnyH_take (i := 8) (v := ?_) rfl (by kernel_rfl) (by kernel_rfl) (by kernel_rfl) (fun _ _ _ h => h) (Or.inl ⟨by rfl, ?_⟩) hHeld ?_
      rotate_left 1
      · (intro w hSw; (try dsimp only at hSw); go_simp <;> with_reducible rfl)
      try simp only [Act.put, List.setIfInBounds_toArray, List.set_cons_zero, List.set_cons_succ, List.getElem_toArray, List.getElem_cons_succ, List.getElem_cons_zero]
      refine wpAnyH_take (i := 9) (v := ?_) rfl (by kernel_rfl) (by kernel_rfl) (by kernel_rfl) (fun _ _ _ h => h) (Or.inl ⟨by rfl, ?_⟩) hHeld ?_
      rotate_left 1
      · (intro w hSw; (try dsimp only at hSw); go_simp <;> with_reducible rfl)
      try simp only [Act.put, List.setIfInBounds_toArray, List.set_cons_zero, List.set_cons_succ, List.getElem_toArray, List.getElem_cons_succ, List.getElem_cons_zero]
      refine wpAnyH_take (i := 10) (v := ?_) rfl (by kernel_rfl) (by kernel_rfl) (by kernel_rfl) (fun _ _ _ h => h) (Or.inl ⟨by rfl, ?_⟩) hHeld ?_
      rotate_left 1
      · (intro w hSw; (try dsimp only at hSw); go_simp <;> with_reducible rfl)
      try simp only [Act.put, List.setIfInBounds_toArray, List.set_cons_zero, List.set_cons_succ, List.getElem_toArray, List.getElem_cons_succ, List.getElem_cons_zero]
      refine wpAnyH_done (by kernel_rfl) ?_ _
      clear hHeld
      go_wp2_with fail
      clear dlt
      generalize wa0.drew = wb0 at *
      have HTN := hid (HTD.out.keep0 ((Fr.refl (fun _ => False) wb0).drew))
      have HFN := hid (HFD.out.trans ((Fr.refl (tfp p m E) wb0).drew))
      have HYN := hid (HYD.out.keep ((Fr.refl (fun _ => False) wb0).drew) (fun h => h))
      have HRN := hid (row_keep HRD.out ((Fr.refl (fun _ => False) wb0).drew) (fun _ _ h => h))
      have HMN := hid (HMD.out.keep ((Fr.refl (fun _ => False) wb0).drew) (fun h => h))
      have HEB2 := hid (HEB.out.keep ((Fr.refl (fun _ => False) wb0).drew) (fun h => h))
      clear HEB
      have HEB := HEB2
      clear HEB2
      clear HTD HFD HYD HRD HMD
      have HTD := HTN
      have HFD := HFN
      have HYD := HYN
      have HRD := HRN
      have HMD := HMN
      clear HTN HFN HYN HRN HMN
      refine wp_region_held_drew (S := fun W => W.cell? ⟨y, 1, none⟩ = some (.int .i64 ob) ∧ W.cell? ⟨eh, 0, none⟩ = some (.int .i64 el)) (by kernel_rfl) (⟨HYD.out.cell 1 rfl, HEB.out.cell 0 rfl⟩) (fun hHeld => ?_)
      refine wpAnyH_take (i := 0) (v := ?_) rfl (by kernel_rfl) (by kernel_rfl) (by kernel_rfl) (fun _ _ _ h => h) (Or.inl ⟨by rfl, ?_⟩) hHeld ?_
      rotate_left 1
      · (intro w hSw; (try dsimp only at hSw); go_simp <;> with_reducible rfl)
      try simp only [Act.put, List.setIfInBounds_toArray, List.set_cons_zero, List.set_cons_succ, List.getElem_toArray, List.getElem_cons_succ, List.getElem_cons_zero]
      refine wpAnyH_take (i := 1) (v := ?_) rfl (by kernel_rfl) (by kernel_rfl) (by kernel_rfl) (fun _ _ _ h => h) (Or.inl ⟨by rfl, ?_⟩) hHeld ?_
      rotate_left 1
      · (intro w hSw; (try dsimp only at hSw); go_simp <;> with_reducible rfl)
      try simp only [Act.put, List.setIfInBounds_toArray, List.set_cons_zero, List.set_cons_succ, List.getElem_toArray, List.getElem_cons_succ, List.getElem_cons_zero]
      refine wpAnyH_take (i := 2) (v := ?_) rfl (by kernel_rfl) (by kernel_rfl) (by kernel_rfl) (fun _ _ _ h => h) (Or.inl ⟨by rfl, ?_⟩) hHeld ?_
      rotate_left 1
      · (intro w hSw; (try dsimp only at hSw); go_simp <;> with_reducible rfl)
      try simp only [Act.put, List.setIfInBounds_toArray, List.set_cons_zero, List.set_cons_succ, List.getElem_toArray, List.getElem_cons_succ, List.getElem_cons_zero]
      refine wpAnyH_take (i := 3) (v := ?_) rfl (by kernel_rfl) (by kernel_rfl) (by kernel_rfl) (fun _ _ _ h => h) (Or.inl ⟨by rfl, ?_⟩) hHeld ?_
      rotate_left 1
      · (intro w hSw; (try dsimp only at hSw); go_simp <;> with_reducible rfl)
      try simp only [Act.put, List.setIfInBounds_toArray, List.set_cons_zero, List.set_cons_succ, List.getElem_toArray, List.getElem_cons_succ, List.getElem_cons_zero]
      refine wpAnyH_take (i := 4) (v := ?_) rfl (by kernel_rfl) (by kernel_rfl) (by kernel_rfl) (fun _ _ _ h => h) (Or.inl ⟨by rfl, ?_⟩) hHeld ?_
      rotate_left 1
      · (intro w hSw; (try dsimp only at hSw); go_simp <;> with_reducible rfl)
      try simp only [Act.put, List.setIfInBounds_toArray, List.set_cons_zero, List.set_cons_succ, List.getElem_toArray, List.getElem_cons_succ, List.getElem_cons_zero]
      refine wpAnyH_take (i := 5) (v := ?_) rfl (by kernel_rfl) (by kernel_rfl) (by kernel_rfl) (fun _ _ _ h => h) (Or.inl ⟨by rfl, ?_⟩) hHeld ?_
      rotate_left 1
      · (intro w hSw; (try dsimp only at hSw); go_simp <;> with_reducible rfl)
      try simp only [Act.put, List.setIfInBounds_toArray, List.set_cons_zero, List.set_cons_succ, List.getElem_toArray, List.getElem_cons_succ, List.getElem_cons_zero]
      refine wpAnyH_take (i := 6) (v := ?_) rfl (by kernel_rfl) (by kernel_rfl) (by kernel_rfl) (fun _ _ _ h => h) (Or.inl ⟨by rfl, ?_⟩) hHeld ?_
      rotate_left 1
      · (intro w hSw; (try dsimp only at hSw); go_simp <;> with_reducible rfl)
      try simp only [Act.put, List.setIfInBounds_toArray, List.set_cons_zero, List.set_cons_succ, List.getElem_toArray, List.getElem_cons_succ, List.getElem_cons_zero]
      refine wpAnyH_done (by kernel_rfl) ?_ _
      clear hHeld
      have hy3 := HYD.out.cell (i := 3) rfl
      go_wp2_with fail
      go_ret3
      refine ⟨.slice ao nb cap, _, ?_, ?_, HA4.out, HTD.out, fun k => ?_, fun b hb => .inl hb, HFD.out⟩
      · show _ = Ending.returned (.tuple #[_, .bool (freshH (AB E oa) ob oc), _])
        rw [HAB.out]
        show _ = Ending.returned (.tuple #[_, .bool (if el < ob then isF [] oc else if el = ob then isF eL oc else false), _])
        rw [if_neg (by have := HGT.out; omega), if_neg (by have := HGT.out; omega)]; rfl
      · show World.ownsRow _ _ _ _ _ obs.length (obs.map _)
        rw [← HNB.out]; exact HRD.out
      · show AB E k = if k = oa then some (nextH (AB E oa) ob oc) else AB E k
        by_cases hka : k = oa
        · rw [if_pos hka, HAB.out, hka, HAB.out]
          show _ = some (if el < ob then (ob, stepF [] oc) else if el = ob then (el, stepF eL oc) else (el, eL))
          rw [if_neg (by have := HGT.out; omega), if_neg (by have := HGT.out; omega)]
        · rw [if_neg hka]
end Go.Proofs.Ytalbncnhmofgaaa
