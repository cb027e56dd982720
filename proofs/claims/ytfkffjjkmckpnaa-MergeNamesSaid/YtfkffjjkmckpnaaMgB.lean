/-
  MERGES (ch 25): Bound, Waiting, Floor. Conditions: none.
-/
import Derived.Test.YtfkffjjkmckpnaaMgA
namespace Go.Proofs.Ytfkffjjkmckpnaa
open Go.RowKit Go.ChangeShapes Go.WideShapes Go.Deep

set_option linter.unusedSimpArgs false
set_option maxRecDepth 100000
theorem zeroKey (W : World) : (zeroValue 32).run Try.prog W = .ok (.agg #[.int .i64 0, .int .i64 0, .int .i64 0, .int .i64 0]) W := by kernel_rfl
section
variable {α : Type} [DecidableEq α] {P : Program} {w : World} {ops : Array Oper} {rest : List Oper} {o : Oper} {f : Act} {Q : Exit → Act → World → Prop}
theorem wpList_lookup_if (hgd : Region.wanted o (yielded ops f.tmps) = true) (m x : Operand) (t : TypeId) (hop : o.op = Op.lookup t m x false) {kt e : TypeId} {κ : α → Value} (K : KeyOk P kt κ) (ht : P.underlying t = some (.map kt e)) {z : Value} (hz : (zeroValue e).run P w = .ok z w) {b : Nat} {M : List (α × Value)}
    (h : MapIs w b κ M) (a : α) (hm : f.eval m = .map (some b)) (hx : f.eval x = κ a) (u : Value) (hu : (look M a).getD z = u)
    (hK : wpList P ops Q rest (f.put o.dst u) w) : wpList P ops Q (o :: rest) f w :=
  wpList_step fun _ hKK => by
    rw [if_pos hgd]
    have hrun := run_lookup_map K ht hz h a false
    rw [hu] at hrun
    unfold Oper.wp
    simp [execOp, hop, hm, hx, hrun, Result.andThen]
    exact hKK _ _ hK
end
def boundA (S : SP) (la : Ky) : Ky := match lowA S with
  | none => la
  | some l => match firstA S 9 with
    | none => l
    | some j => if kc (hdA S j) l ≤ 0 then la else l
def floorA (S : SP) (n : Int) : Ky := match S n with | none => kz | some (fl, _) => fl
def waitA (S : SP) : Option Ky := match firstA S 9 with | none => none | some j => some (hdA S j)
theorem st_eq0 (w : World) : (binOp .eql 74 (.pointer none) (.pointer none)).run Try.prog w = .ok (.bool true) w := by kernel_rfl
theorem st_eq1 (b : Nat) (w : World) : (binOp .eql 74 (.pointer (some ⟨b, 0, none⟩)) (.pointer none)).run Try.prog w = .ok (.bool false) w := by kernel_rfl
theorem st_ne0 (w : World) : (binOp .neq 74 (.pointer none) (.pointer none)).run Try.prog w = .ok (.bool false) w := by kernel_rfl
theorem st_ne1 (b : Nat) (w : World) : (binOp .neq 74 (.pointer (some ⟨b, 0, none⟩)) (.pointer none)).run Try.prog w = .ok (.bool true) w := by kernel_rfl
section
variable {w : World} {p m : Nat} {F : Int → Option SM} {la : Ky}
theorem floor_mg (n : Int) (h : MG w p m F la) : Calls Try.prog 19 #[.pointer (some ⟨p, 0, none⟩), .int .i64 n] w fun e w' => e = .returned (floorA (abs F) n).agg ∧ Fr (fun _ => False) w w' := by
  have HG := hid h
  have hs0 := st_eq0
  have hs1 := st_eq1
  clear h
  go_enter Try.func19, Try.ntmps19
  go_wp2_with (refine wpList_new rfl 32 rfl #[.int .i64 0, .int .i64 0, .int .i64 0, .int .i64 0] zeroKey ?_)
  intro z w1 hz B1 f1 z1
  have HB1 := hid B1
  have HF1 := hid f1
  have HZ1 := hid hz
  have HG1 := hid (HG.out.keep0 f1)
  clear B1 f1 hz z1
  go_wp2_with fail
  with_reducible refine (none_mg HG1.out).mono ?_
  rintro e w2 ⟨rfl, rfl⟩
  obtain ⟨M, hM, hL⟩ := HG1.out.map
  have HM := hid hM
  have HL := hid (hL.1 n)
  have c0 := HG1.out.c0
  clear hM hL
  cases hF : F n with
  | none =>
    have HA : Hid (floorA (abs F) n = kz) := hid (by unfold floorA abs; rw [hF]; rfl)
    rw [hF] at HL
    have HLK : Hid ((look M n).getD (.pointer none) = .pointer none) := hid (by rw [HL.out]; rfl)
    clear hF HL
    go_wp2_with (first | (refine wpList_lookup_if rfl _ _ 69 rfl (int_keyOk Try.underlying3) Try.underlying69 (zeroSt w1) HM.out n rfl rfl _ HLK.out ?_) | (refine wpList_store_part rfl 32 _ _ rfl aggKey z 0 rfl HB1.out (.agg #[.int .i64 0, .int .i64 0, .int .i64 0, .int .i64 0]) rfl rfl (one_key kz) (by decide) #[.int .i64 0, .int .i64 0, .int .i64 0, .int .i64 0] rfl ?_))
    intro w2 B2 f2 z2
    have HF2 := hid (HF1.out.into f2 (by have := HZ1.out; omega))
    go_wp2_with fail
    exact bodyPost_ret (v := .agg #[.int .i64 0, .int .i64 0, .int .i64 0, .int .i64 0]) (results_cell1 rfl _ aggKey rfl B2 rfl) rfl ⟨by rw [HA.out]; rfl, HF2.out⟩
  | some s =>
    have HA : Hid (floorA (abs F) n = s.fl) := hid (by unfold floorA; rw [abs_at hF])
    have HE := hid ((HG1.out.ent n s hF).1)
    rw [hF] at HL
    have HLK : Hid ((look M n).getD (.pointer none) = .pointer (some ⟨s.h, 0, none⟩)) := hid (by rw [HL.out]; rfl)
    clear hF HL
    go_wp2_with (first | (refine wpList_lookup_if rfl _ _ 69 rfl (int_keyOk Try.underlying3) Try.underlying69 (zeroSt w1) HM.out n rfl rfl _ HLK.out ?_) | (refine wpList_load_part rfl 32 _ rfl aggKey s.h 0 rfl HE.out #[.int .i64 s.fl.s, .int .i64 s.fl.r, .int .i64 s.fl.p, .int .i64 s.fl.q] rfl rfl ?_) | (refine wpList_store_part rfl 32 _ _ rfl aggKey z 0 rfl HB1.out (.agg #[.int .i64 s.fl.s, .int .i64 s.fl.r, .int .i64 s.fl.p, .int .i64 s.fl.q]) rfl rfl (one_key s.fl) (by decide) #[.int .i64 s.fl.s, .int .i64 s.fl.r, .int .i64 s.fl.p, .int .i64 s.fl.q] rfl ?_))
    intro w2 B2 f2 z2
    have HF2 := hid (HF1.out.into f2 (by have := HZ1.out; omega))
    go_wp2_with fail
    exact bodyPost_ret (v := .agg #[.int .i64 s.fl.s, .int .i64 s.fl.r, .int .i64 s.fl.p, .int .i64 s.fl.q]) (results_cell1 rfl _ aggKey rfl B2 rfl) rfl ⟨by rw [HA.out]; rfl, HF2.out⟩
theorem waiting_mg (h : MG w p m F la) : Calls Try.prog 21 #[.pointer (some ⟨p, 0, none⟩)] w fun e w' => e = .returned (.tuple #[((waitA (abs F)).getD kz).agg, .bool (waitA (abs F)).isSome]) ∧ Fr (fun _ => False) w w' := by
  have HG := hid h
  have hs0 := st_eq0
  have hs1 := st_eq1
  clear h
  go_enter Try.func21, Try.ntmps21
  go_wp2_with (refine wpList_new rfl 32 rfl #[.int .i64 0, .int .i64 0, .int .i64 0, .int .i64 0] zeroKey ?_)
  intro z w1 hz B1 f1 z1
  have HB1 := hid B1
  have HF1 := hid f1
  have HZ1 := hid hz
  have HG1 := hid (HG.out.keep0 f1)
  clear B1 f1 hz z1
  go_wp2_with fail
  with_reducible refine (none_mg HG1.out).mono ?_
  rintro e w2 ⟨rfl, rfl⟩
  go_wp2_with fail
  with_reducible refine (first_mg HG1.out).mono ?_
  rintro e w2 ⟨rfl, f2⟩
  have HFA := hid (first_abs F 9)
  have HG2 := hid (HG1.out.keep0 f2)
  have HB2 := hid (HB1.out.keep f2 (fun h => h))
  have HF2 := hid (HF1.out.trans f2)
  clear f2
  cases hff : firstK F 9 with
  | none =>
    rw [hff] at HFA
    have HA : Hid (waitA (abs F) = none) := hid (by unfold waitA; rw [HFA.out])
    rw [ptr_none]
    clear hff
    go_wp2_with (refine wpList_store_part rfl 32 _ _ rfl aggKey z 0 rfl HB2.out (.agg #[.int .i64 0, .int .i64 0, .int .i64 0, .int .i64 0]) rfl rfl (one_key kz) (by decide) #[.int .i64 0, .int .i64 0, .int .i64 0, .int .i64 0] rfl ?_)
    intro w3 B3 f3 z3
    have HF3 := hid (HF2.out.into f3 (by have := HZ1.out; omega))
    go_wp2_with fail
    exact bodyPost_ret (v := .tuple #[.agg #[.int .i64 0, .int .i64 0, .int .i64 0, .int .i64 0], .bool false]) (results_cell_slot rfl _ aggKey rfl B3 rfl _ rfl) rfl ⟨by rw [HA.out]; rfl, HF3.out⟩
  | some j =>
    rw [hff] at HFA
    obtain ⟨s, hs, hs0'⟩ := firstK_some hff
    have HA : Hid (waitA (abs F) = some (hdL s.L)) := hid (by unfold waitA; rw [HFA.out]; simp only; rw [hdA_abs, hdF_some hs])
    rw [ptr_some hs]
    have HEN := hid (HG2.out.ent j s hs)
    obtain ⟨g, o, cap, N, hv, hN, hN0, hNc, hcap, q0, q1, q2, q3⟩ := HEN.out.2.head hs0'
    have c4 : w2.cell? ⟨s.h, 4, none⟩ = some (.slice (some ⟨g, o, none⟩) N cap) := hv ▸ HEN.out.1.cell 4 rfl
    generalize hdL s.L = k at *
    have B2 := HB2.out
    clear hff hs hs0' hv hN
    go_wp2_with (refine wpList_store_part rfl 32 _ _ rfl aggKey z 0 rfl HB2.out (.agg #[.int .i64 k.s, .int .i64 k.r, .int .i64 k.p, .int .i64 k.q]) rfl rfl (one_key k) (by decide) #[.int .i64 k.s, .int .i64 k.r, .int .i64 k.p, .int .i64 k.q] rfl ?_)
    intro w3 B3 f3 z3
    have HF3 := hid (HF2.out.into f3 (by have := HZ1.out; omega))
    go_wp2_with fail
    exact bodyPost_ret (v := .tuple #[.agg #[.int .i64 k.s, .int .i64 k.r, .int .i64 k.p, .int .i64 k.q], .bool true]) (results_cell_slot rfl _ aggKey rfl B3 rfl _ rfl) rfl ⟨by rw [HA.out]; rfl, HF3.out⟩
theorem bound_mg (h : MG w p m F la) : Calls Try.prog 12 #[.pointer (some ⟨p, 0, none⟩)] w fun e w' => e = .returned (boundA (abs F) la).agg ∧ Fr (fun _ => False) w w' := by
  have HG := hid h
  have hs0 := st_ne0
  have hs1 := st_ne1
  have he0 := ptr_eq0
  have he1 := ptr_eq1
  clear h
  go_enter Try.func12, Try.ntmps12
  go_wp2_with (refine wpList_new rfl 32 rfl #[.int .i64 0, .int .i64 0, .int .i64 0, .int .i64 0] zeroKey ?_)
  intro z w1 hz B1 f1 z1
  have HB1 := hid B1
  have HF1 := hid f1
  have HZ1 := hid hz
  have HG1 := hid (HG.out.keep0 f1)
  clear B1 f1 hz z1
  go_wp2_with fail
  with_reducible refine (none_mg HG1.out).mono ?_
  rintro e w2 ⟨rfl, rfl⟩
  go_wp2_with fail
  with_reducible refine (low_mg HG1.out).mono ?_
  rintro e w2 ⟨v, rfl, hq, f2⟩
  have HQ := hid hq
  have HG2 := hid (HG1.out.keep0 f2)
  have HB2 := hid (HB1.out.keep f2 (fun h => h))
  have HF2 := hid (HF1.out.trans f2)
  clear f2 hq
  obtain ⟨vn, rfl⟩ : ∃ (vn : Option Addr), v = .pointer vn := by
    rcases low_abs HQ.out HG2.out.dom with ⟨rfl, _⟩ | ⟨n, t, _, rfl, _⟩
    · exact ⟨_, rfl⟩
    · exact ⟨_, rfl⟩
  go_wp2_with fail
  with_reducible refine (first_mg HG2.out).mono ?_
  rintro e w3 ⟨rfl, f3⟩
  have HG3 := hid (HG2.out.keep0 f3)
  have HB3 := hid (HB2.out.keep f3 (fun h => h))
  have HF3 := hid (HF2.out.trans f3)
  have HFA := hid (first_abs F 9)
  clear f3
  rcases low_abs HQ.out HG3.out.dom with ⟨hvn, hl⟩ | ⟨n, t, ht, hvn, hl⟩
  · injection hvn with hvn
    subst hvn
    have HA : Hid (boundA (abs F) la = la) := hid (by unfold boundA; rw [hl])
    clear hl
    obtain ⟨fp, hfp⟩ : ∃ fp, fp = ptrF F (firstK F 9) := ⟨_, rfl⟩
    rw [← hfp]
    clear hfp HFA HQ
    go_wp2_with fail
    refine wp_region_held_drew (S := fun _ => True) (by kernel_rfl) (trivial) (fun hHeld => ?_)
    refine wpAnyH_take (i := 0) (v := ?_) rfl (by kernel_rfl) (by kernel_rfl) (by kernel_rfl) (fun _ _ _ h => h) (Or.inl ⟨by rfl, ?_⟩) hHeld ?_
    rotate_left 1
    · (intro w hSw; (try dsimp only at hSw); go_simp <;> with_reducible rfl)
    try simp only [Act.put, List.setIfInBounds_toArray, List.set_cons_zero, List.set_cons_succ, List.getElem_toArray, List.getElem_cons_succ, List.getElem_cons_zero]
    refine wpAnyH_take (i := 1) (v := ?_) rfl (by kernel_rfl) (by kernel_rfl) (by kernel_rfl) (fun _ _ _ h => h) (Or.inl ⟨by rfl, ?_⟩) hHeld ?_
    rotate_left 1
    · (intro w hSw; (try dsimp only at hSw); go_simp <;> with_reducible rfl)
    try simp only [Act.put, List.setIfInBounds_toArray, List.set_cons_zero, List.set_cons_succ, List.getElem_toArray, List.getElem_cons_succ, List.getElem_cons_zero]
    refine wpAnyH_take (i := 2) (v := ?_) rfl (by kernel_rfl) (by kernel_rfl) (by kernel_rfl) (fun _ _ _ h => h) (Or.inl ⟨by rfl, ?_⟩) hHeld ?_
    rotate_left 1
    · (intro w hSw; (try dsimp only at hSw); go_simp <;> with_reducible rfl)
    try simp only [Act.put, List.setIfInBounds_toArray, List.set_cons_zero, List.set_cons_succ, List.getElem_toArray, List.getElem_cons_succ, List.getElem_cons_zero]
    refine wpAnyH_take (i := 3) (v := undef) rfl (by kernel_rfl) (by kernel_rfl) (by kernel_rfl) (fun _ _ _ h => h) (Or.inr ⟨by rfl, rfl⟩) hHeld ?_
    try simp only [Act.put, List.setIfInBounds_toArray, List.set_cons_zero, List.set_cons_succ, List.getElem_toArray, List.getElem_cons_succ, List.getElem_cons_zero]
    refine wpAnyH_take (i := 4) (v := undef) rfl (by kernel_rfl) (by kernel_rfl) (by kernel_rfl) (fun _ _ _ h => h) (Or.inr ⟨by rfl, rfl⟩) hHeld ?_
    try simp only [Act.put, List.setIfInBounds_toArray, List.set_cons_zero, List.set_cons_succ, List.getElem_toArray, List.getElem_cons_succ, List.getElem_cons_zero]
    refine wpAnyH_take (i := 5) (v := undef) rfl (by kernel_rfl) (by kernel_rfl) (by kernel_rfl) (fun _ _ _ h => h) (Or.inr ⟨by rfl, rfl⟩) hHeld ?_
    try simp only [Act.put, List.setIfInBounds_toArray, List.set_cons_zero, List.set_cons_succ, List.getElem_toArray, List.getElem_cons_succ, List.getElem_cons_zero]
    refine wpAnyH_take (i := 6) (v := undef) rfl (by kernel_rfl) (by kernel_rfl) (by kernel_rfl) (fun _ _ _ h => h) (Or.inr ⟨by rfl, rfl⟩) hHeld ?_
    try simp only [Act.put, List.setIfInBounds_toArray, List.set_cons_zero, List.set_cons_succ, List.getElem_toArray, List.getElem_cons_succ, List.getElem_cons_zero]
    refine wpAnyH_take (i := 7) (v := undef) rfl (by kernel_rfl) (by kernel_rfl) (by kernel_rfl) (fun _ _ _ h => h) (Or.inr ⟨by rfl, rfl⟩) hHeld ?_
    try simp only [Act.put, List.setIfInBounds_toArray, List.set_cons_zero, List.set_cons_succ, List.getElem_toArray, List.getElem_cons_succ, List.getElem_cons_zero]
    refine wpAnyH_take (i := 8) (v := undef) rfl (by kernel_rfl) (by kernel_rfl) (by kernel_rfl) (fun _ _ _ h => h) (Or.inr ⟨by rfl, rfl⟩) hHeld ?_
    try simp only [Act.put, List.setIfInBounds_toArray, List.set_cons_zero, List.set_cons_succ, List.getElem_toArray, List.getElem_cons_succ, List.getElem_cons_zero]
    refine wpAnyH_take (i := 9) (v := undef) rfl (by kernel_rfl) (by kernel_rfl) (by kernel_rfl) (fun _ _ _ h => h) (Or.inr ⟨by rfl, rfl⟩) hHeld ?_
    try simp only [Act.put, List.setIfInBounds_toArray, List.set_cons_zero, List.set_cons_succ, List.getElem_toArray, List.getElem_cons_succ, List.getElem_cons_zero]
    refine wpAnyH_take (i := 10) (v := undef) rfl (by kernel_rfl) (by kernel_rfl) (by kernel_rfl) (fun _ _ _ h => h) (Or.inr ⟨by rfl, rfl⟩) hHeld ?_
    try simp only [Act.put, List.setIfInBounds_toArray, List.set_cons_zero, List.set_cons_succ, List.getElem_toArray, List.getElem_cons_succ, List.getElem_cons_zero]
    refine wpAnyH_take (i := 11) (v := undef) rfl (by kernel_rfl) (by kernel_rfl) (by kernel_rfl) (fun _ _ _ h => h) (Or.inr ⟨by rfl, rfl⟩) hHeld ?_
    try simp only [Act.put, List.setIfInBounds_toArray, List.set_cons_zero, List.set_cons_succ, List.getElem_toArray, List.getElem_cons_succ, List.getElem_cons_zero]
    refine wpAnyH_take (i := 12) (v := undef) rfl (by kernel_rfl) (by kernel_rfl) (by kernel_rfl) (fun _ _ _ h => h) (Or.inr ⟨by rfl, rfl⟩) hHeld ?_
    try simp only [Act.put, List.setIfInBounds_toArray, List.set_cons_zero, List.set_cons_succ, List.getElem_toArray, List.getElem_cons_succ, List.getElem_cons_zero]
    refine wpAnyH_take (i := 13) (v := undef) rfl (by kernel_rfl) (by kernel_rfl) (by kernel_rfl) (fun _ _ _ h => h) (Or.inr ⟨by rfl, rfl⟩) hHeld ?_
    try simp only [Act.put, List.setIfInBounds_toArray, List.set_cons_zero, List.set_cons_succ, List.getElem_toArray, List.getElem_cons_succ, List.getElem_cons_zero]
    refine wpAnyH_take (i := 14) (v := undef) rfl (by kernel_rfl) (by kernel_rfl) (by kernel_rfl) (fun _ _ _ h => h) (Or.inr ⟨by rfl, rfl⟩) hHeld ?_
    try simp only [Act.put, List.setIfInBounds_toArray, List.set_cons_zero, List.set_cons_succ, List.getElem_toArray, List.getElem_cons_succ, List.getElem_cons_zero]
    refine wpAnyH_take (i := 15) (v := undef) rfl (by kernel_rfl) (by kernel_rfl) (by kernel_rfl) (fun _ _ _ h => h) (Or.inr ⟨by rfl, rfl⟩) hHeld ?_
    try simp only [Act.put, List.setIfInBounds_toArray, List.set_cons_zero, List.set_cons_succ, List.getElem_toArray, List.getElem_cons_succ, List.getElem_cons_zero]
    refine wpAnyH_take (i := 16) (v := undef) rfl (by kernel_rfl) (by kernel_rfl) (by kernel_rfl) (fun _ _ _ h => h) (Or.inr ⟨by rfl, rfl⟩) hHeld ?_
    try simp only [Act.put, List.setIfInBounds_toArray, List.set_cons_zero, List.set_cons_succ, List.getElem_toArray, List.getElem_cons_succ, List.getElem_cons_zero]
    refine wpAnyH_take (i := 17) (v := undef) rfl (by kernel_rfl) (by kernel_rfl) (by kernel_rfl) (fun _ _ _ h => h) (Or.inr ⟨by rfl, rfl⟩) hHeld ?_
    try simp only [Act.put, List.setIfInBounds_toArray, List.set_cons_zero, List.set_cons_succ, List.getElem_toArray, List.getElem_cons_succ, List.getElem_cons_zero]
    refine wpAnyH_take (i := 18) (v := undef) rfl (by kernel_rfl) (by kernel_rfl) (by kernel_rfl) (fun _ _ _ h => h) (Or.inr ⟨by rfl, rfl⟩) hHeld ?_
    try simp only [Act.put, List.setIfInBounds_toArray, List.set_cons_zero, List.set_cons_succ, List.getElem_toArray, List.getElem_cons_succ, List.getElem_cons_zero]
    refine wpAnyH_take (i := 19) (v := ?_) rfl (by kernel_rfl) (by kernel_rfl) (by kernel_rfl) (fun _ _ _ h => h) (Or.inl ⟨by rfl, ?_⟩) hHeld ?_
    rotate_left 1
    · (intro w hSw; (try dsimp only at hSw); go_simp <;> with_reducible rfl)
    try simp only [Act.put, List.setIfInBounds_toArray, List.set_cons_zero, List.set_cons_succ, List.getElem_toArray, List.getElem_cons_succ, List.getElem_cons_zero]
    refine wpAnyH_done (by kernel_rfl) ?_ _
    clear hHeld
    have HF4 := hid (Fr.drew (Fr.refl (fun _ => False) w3))
    have HX4 := hid (HG3.out.blk.keep HF4.out (fun h => h))
    have HB4 := hid (HB3.out.keep HF4.out (fun h => h))
    go_wp2_with (first | (refine wpList_load_part rfl 32 _ rfl aggKey p 1 rfl HX4.out #[.int .i64 la.s, .int .i64 la.r, .int .i64 la.p, .int .i64 la.q] rfl rfl ?_) | (refine wpList_store_part rfl 32 _ _ rfl aggKey z 0 rfl HB4.out (.agg #[.int .i64 la.s, .int .i64 la.r, .int .i64 la.p, .int .i64 la.q]) rfl rfl (one_key la) (by decide) #[.int .i64 la.s, .int .i64 la.r, .int .i64 la.p, .int .i64 la.q] rfl ?_))
    intro w5 B5 f5 z5
    have HF5 := hid ((HF3.out.trans HF4.out).into f5 (by have := HZ1.out; omega))
    go_wp2_with fail
    exact bodyPost_ret (v := .agg #[.int .i64 la.s, .int .i64 la.r, .int .i64 la.p, .int .i64 la.q]) (results_cell1 rfl _ aggKey rfl B5 rfl) rfl ⟨by rw [HA.out]; rfl, HF5.out⟩
  · injection hvn with hvn
    subst hvn
    have HE := hid ((HG3.out.ent n t ht).1)
    cases hff : firstK F 9 with
    | none =>
      rw [hff] at HFA
      have HA : Hid (boundA (abs F) la = t.fl) := hid (by unfold boundA; rw [hl]; simp only; rw [HFA.out])
      rw [ptr_none]
      clear hff hl HFA HQ ht
      go_wp2_with fail
      refine wp_region_held_drew (S := fun _ => True) (by kernel_rfl) (trivial) (fun hHeld => ?_)
      refine wpAnyH_take (i := 0) (v := ?_) rfl (by kernel_rfl) (by kernel_rfl) (by kernel_rfl) (fun _ _ _ h => h) (Or.inl ⟨by rfl, ?_⟩) hHeld ?_
      rotate_left 1
      · (intro w hSw; (try dsimp only at hSw); go_simp <;> with_reducible rfl)
      try simp only [Act.put, List.setIfInBounds_toArray, List.set_cons_zero, List.set_cons_succ, List.getElem_toArray, List.getElem_cons_succ, List.getElem_cons_zero]
      refine wpAnyH_take (i := 1) (v := ?_) rfl (by kernel_rfl) (by kernel_rfl) (by kernel_rfl) (fun _ _ _ h => h) (Or.inl ⟨by rfl, ?_⟩) hHeld ?_
      rotate_left 1
      · (intro w hSw; (try dsimp only at hSw); go_simp <;> with_reducible rfl)
      try simp only [Act.put, List.setIfInBounds_toArray, List.set_cons_zero, List.set_cons_succ, List.getElem_toArray, List.getElem_cons_succ, List.getElem_cons_zero]
      refine wpAnyH_take (i := 2) (v := ?_) rfl (by kernel_rfl) (by kernel_rfl) (by kernel_rfl) (fun _ _ _ h => h) (Or.inl ⟨by rfl, ?_⟩) hHeld ?_
      rotate_left 1
      · (intro w hSw; (try dsimp only at hSw); go_simp <;> with_reducible rfl)
      try simp only [Act.put, List.setIfInBounds_toArray, List.set_cons_zero, List.set_cons_succ, List.getElem_toArray, List.getElem_cons_succ, List.getElem_cons_zero]
      refine wpAnyH_take (i := 3) (v := ?_) rfl (by kernel_rfl) (by kernel_rfl) (by kernel_rfl) (fun _ _ _ h => h) (Or.inl ⟨by rfl, ?_⟩) hHeld ?_
      rotate_left 1
      · (intro w hSw; (try dsimp only at hSw); go_simp <;> with_reducible rfl)
      try simp only [Act.put, List.setIfInBounds_toArray, List.set_cons_zero, List.set_cons_succ, List.getElem_toArray, List.getElem_cons_succ, List.getElem_cons_zero]
      refine wpAnyH_take (i := 4) (v := ?_) rfl (by kernel_rfl) (by kernel_rfl) (by kernel_rfl) (fun _ _ _ h => h) (Or.inl ⟨by rfl, ?_⟩) hHeld ?_
      rotate_left 1
      · (intro w hSw; (try dsimp only at hSw); go_simp <;> with_reducible rfl)
      try simp only [Act.put, List.setIfInBounds_toArray, List.set_cons_zero, List.set_cons_succ, List.getElem_toArray, List.getElem_cons_succ, List.getElem_cons_zero]
      refine wpAnyH_take (i := 5) (v := ?_) rfl (by kernel_rfl) (by kernel_rfl) (by kernel_rfl) (fun _ _ _ h => h) (Or.inl ⟨by rfl, ?_⟩) hHeld ?_
      rotate_left 1
      · (intro w hSw; (try dsimp only at hSw); go_simp <;> with_reducible rfl)
      try simp only [Act.put, List.setIfInBounds_toArray, List.set_cons_zero, List.set_cons_succ, List.getElem_toArray, List.getElem_cons_succ, List.getElem_cons_zero]
      refine wpAnyH_take (i := 6) (v := undef) rfl (by kernel_rfl) (by kernel_rfl) (by kernel_rfl) (fun _ _ _ h => h) (Or.inr ⟨by rfl, rfl⟩) hHeld ?_
      try simp only [Act.put, List.setIfInBounds_toArray, List.set_cons_zero, List.set_cons_succ, List.getElem_toArray, List.getElem_cons_succ, List.getElem_cons_zero]
      refine wpAnyH_take (i := 7) (v := undef) rfl (by kernel_rfl) (by kernel_rfl) (by kernel_rfl) (fun _ _ _ h => h) (Or.inr ⟨by rfl, rfl⟩) hHeld ?_
      try simp only [Act.put, List.setIfInBounds_toArray, List.set_cons_zero, List.set_cons_succ, List.getElem_toArray, List.getElem_cons_succ, List.getElem_cons_zero]
      refine wpAnyH_take (i := 8) (v := undef) rfl (by kernel_rfl) (by kernel_rfl) (by kernel_rfl) (fun _ _ _ h => h) (Or.inr ⟨by rfl, rfl⟩) hHeld ?_
      try simp only [Act.put, List.setIfInBounds_toArray, List.set_cons_zero, List.set_cons_succ, List.getElem_toArray, List.getElem_cons_succ, List.getElem_cons_zero]
      refine wpAnyH_take (i := 9) (v := undef) rfl (by kernel_rfl) (by kernel_rfl) (by kernel_rfl) (fun _ _ _ h => h) (Or.inr ⟨by rfl, rfl⟩) hHeld ?_
      try simp only [Act.put, List.setIfInBounds_toArray, List.set_cons_zero, List.set_cons_succ, List.getElem_toArray, List.getElem_cons_succ, List.getElem_cons_zero]
      refine wpAnyH_take (i := 10) (v := undef) rfl (by kernel_rfl) (by kernel_rfl) (by kernel_rfl) (fun _ _ _ h => h) (Or.inr ⟨by rfl, rfl⟩) hHeld ?_
      try simp only [Act.put, List.setIfInBounds_toArray, List.set_cons_zero, List.set_cons_succ, List.getElem_toArray, List.getElem_cons_succ, List.getElem_cons_zero]
      refine wpAnyH_take (i := 11) (v := undef) rfl (by kernel_rfl) (by kernel_rfl) (by kernel_rfl) (fun _ _ _ h => h) (Or.inr ⟨by rfl, rfl⟩) hHeld ?_
      try simp only [Act.put, List.setIfInBounds_toArray, List.set_cons_zero, List.set_cons_succ, List.getElem_toArray, List.getElem_cons_succ, List.getElem_cons_zero]
      refine wpAnyH_take (i := 12) (v := undef) rfl (by kernel_rfl) (by kernel_rfl) (by kernel_rfl) (fun _ _ _ h => h) (Or.inr ⟨by rfl, rfl⟩) hHeld ?_
      try simp only [Act.put, List.setIfInBounds_toArray, List.set_cons_zero, List.set_cons_succ, List.getElem_toArray, List.getElem_cons_succ, List.getElem_cons_zero]
      refine wpAnyH_take (i := 13) (v := undef) rfl (by kernel_rfl) (by kernel_rfl) (by kernel_rfl) (fun _ _ _ h => h) (Or.inr ⟨by rfl, rfl⟩) hHeld ?_
      try simp only [Act.put, List.setIfInBounds_toArray, List.set_cons_zero, List.set_cons_succ, List.getElem_toArray, List.getElem_cons_succ, List.getElem_cons_zero]
      refine wpAnyH_take (i := 14) (v := undef) rfl (by kernel_rfl) (by kernel_rfl) (by kernel_rfl) (fun _ _ _ h => h) (Or.inr ⟨by rfl, rfl⟩) hHeld ?_
      try simp only [Act.put, List.setIfInBounds_toArray, List.set_cons_zero, List.set_cons_succ, List.getElem_toArray, List.getElem_cons_succ, List.getElem_cons_zero]
      refine wpAnyH_take (i := 15) (v := undef) rfl (by kernel_rfl) (by kernel_rfl) (by kernel_rfl) (fun _ _ _ h => h) (Or.inr ⟨by rfl, rfl⟩) hHeld ?_
      try simp only [Act.put, List.setIfInBounds_toArray, List.set_cons_zero, List.set_cons_succ, List.getElem_toArray, List.getElem_cons_succ, List.getElem_cons_zero]
      refine wpAnyH_take (i := 16) (v := undef) rfl (by kernel_rfl) (by kernel_rfl) (by kernel_rfl) (fun _ _ _ h => h) (Or.inr ⟨by rfl, rfl⟩) hHeld ?_
      try simp only [Act.put, List.setIfInBounds_toArray, List.set_cons_zero, List.set_cons_succ, List.getElem_toArray, List.getElem_cons_succ, List.getElem_cons_zero]
      refine wpAnyH_take (i := 17) (v := undef) rfl (by kernel_rfl) (by kernel_rfl) (by kernel_rfl) (fun _ _ _ h => h) (Or.inr ⟨by rfl, rfl⟩) hHeld ?_
      try simp only [Act.put, List.setIfInBounds_toArray, List.set_cons_zero, List.set_cons_succ, List.getElem_toArray, List.getElem_cons_succ, List.getElem_cons_zero]
      refine wpAnyH_take (i := 18) (v := ?_) rfl (by kernel_rfl) (by kernel_rfl) (by kernel_rfl) (fun _ _ _ h => h) (Or.inl ⟨by rfl, ?_⟩) hHeld ?_
      rotate_left 1
      · (intro w hSw; (try dsimp only at hSw); go_simp <;> with_reducible rfl)
      try simp only [Act.put, List.setIfInBounds_toArray, List.set_cons_zero, List.set_cons_succ, List.getElem_toArray, List.getElem_cons_succ, List.getElem_cons_zero]
      refine wpAnyH_take (i := 19) (v := ?_) rfl (by kernel_rfl) (by kernel_rfl) (by kernel_rfl) (fun _ _ _ h => h) (Or.inl ⟨by rfl, ?_⟩) hHeld ?_
      rotate_left 1
      · (intro w hSw; (try dsimp only at hSw); go_simp <;> with_reducible rfl)
      try simp only [Act.put, List.setIfInBounds_toArray, List.set_cons_zero, List.set_cons_succ, List.getElem_toArray, List.getElem_cons_succ, List.getElem_cons_zero]
      refine wpAnyH_done (by kernel_rfl) ?_ _
      clear hHeld
      have HF4 := hid (Fr.drew (Fr.refl (fun _ => False) w3))
      have HX4 := hid (HE.out.keep HF4.out (fun h => h))
      have HB4 := hid (HB3.out.keep HF4.out (fun h => h))
      go_wp2_with (first | (refine wpList_load_part rfl 32 _ rfl aggKey t.h 0 rfl HX4.out #[.int .i64 t.fl.s, .int .i64 t.fl.r, .int .i64 t.fl.p, .int .i64 t.fl.q] rfl rfl ?_) | (refine wpList_store_part rfl 32 _ _ rfl aggKey z 0 rfl HB4.out (.agg #[.int .i64 t.fl.s, .int .i64 t.fl.r, .int .i64 t.fl.p, .int .i64 t.fl.q]) rfl rfl (one_key t.fl) (by decide) #[.int .i64 t.fl.s, .int .i64 t.fl.r, .int .i64 t.fl.p, .int .i64 t.fl.q] rfl ?_))
      intro w5 B5 f5 z5
      have HF5 := hid ((HF3.out.trans HF4.out).into f5 (by have := HZ1.out; omega))
      go_wp2_with fail
      exact bodyPost_ret (v := .agg #[.int .i64 t.fl.s, .int .i64 t.fl.r, .int .i64 t.fl.p, .int .i64 t.fl.q]) (results_cell1 rfl _ aggKey rfl B5 rfl) rfl ⟨by rw [HA.out]; rfl, HF5.out⟩
    | some j =>
      rw [hff] at HFA
      obtain ⟨s, hs, hs0'⟩ := firstK_some hff
      have HA : Hid (boundA (abs F) la = if kc (hdL s.L) t.fl ≤ 0 then la else t.fl) := hid (by unfold boundA; rw [hl]; simp only; rw [HFA.out]; simp only; rw [hdA_abs, hdF_some hs])
      rw [ptr_some hs]
      have HEN := hid (HG3.out.ent j s hs)
      obtain ⟨g, o, cap, N, hv, hN, hN0, hNc, hcap, q0, q1, q2, q3⟩ := HEN.out.2.head hs0'
      have c4 : w3.cell? ⟨s.h, 4, none⟩ = some (.slice (some ⟨g, o, none⟩) N cap) := hv ▸ HEN.out.1.cell 4 rfl
      generalize hdL s.L = k at *
      have PS : Hid (∀ W, Fr (fun _ => False) w3 W → W.cell? ⟨s.h, 4, none⟩ = some (.slice (some ⟨g, o, none⟩) N cap) ∧ W.cell? ⟨g, o, none⟩ = some (.int .i64 k.s) ∧ W.cell? ⟨g, o + 1, none⟩ = some (.int .i64 k.r) ∧ W.cell? ⟨g, o + 2, none⟩ = some (.int .i64 k.p) ∧ W.cell? ⟨g, o + 3, none⟩ = some (.int .i64 k.q) ∧ W.cell? ⟨t.h, 0, none⟩ = some (.int .i64 t.fl.s) ∧ W.cell? ⟨t.h, 1, none⟩ = some (.int .i64 t.fl.r) ∧ W.cell? ⟨t.h, 2, none⟩ = some (.int .i64 t.fl.p) ∧ W.cell? ⟨t.h, 3, none⟩ = some (.int .i64 t.fl.q)) := hid (fun W f => by
        have b := HE.out.keep f (fun h => h)
        exact ⟨cell_fr f c4, cell_fr f q0, cell_fr f q1, cell_fr f q2, cell_fr f q3, b.cell 0 rfl, b.cell 1 rfl, b.cell 2 rfl, b.cell 3 rfl⟩)
      have HKC := hid (fun W => keys_any k.s k.r k.p k.q t.fl.s t.fl.r t.fl.p t.fl.q W)
      rw [show kcmp k.s k.r k.p k.q t.fl.s t.fl.r t.fl.p t.fl.q = kc k t.fl from rfl] at HKC
      obtain ⟨C, hC⟩ : ∃ C, kc k t.fl = C := ⟨_, rfl⟩
      rw [hC] at HKC HA
      clear hff hl HFA HQ ht hs hs0' hv hC q0 q1 q2 q3 c4 hN
      by_cases hC : C ≤ 0
      · have d1 : decide (C ≤ 0) = true := decide_eq_true hC
        rw [if_pos hC] at HA
        clear hC
        go_wp2_with fail
        refine wp_region_held_drew (S := fun W => W.cell? ⟨s.h, 4, none⟩ = some (.slice (some ⟨g, o, none⟩) N cap) ∧ W.cell? ⟨g, o, none⟩ = some (.int .i64 k.s) ∧ W.cell? ⟨g, o + 1, none⟩ = some (.int .i64 k.r) ∧ W.cell? ⟨g, o + 2, none⟩ = some (.int .i64 k.p) ∧ W.cell? ⟨g, o + 3, none⟩ = some (.int .i64 k.q) ∧ W.cell? ⟨t.h, 0, none⟩ = some (.int .i64 t.fl.s) ∧ W.cell? ⟨t.h, 1, none⟩ = some (.int .i64 t.fl.r) ∧ W.cell? ⟨t.h, 2, none⟩ = some (.int .i64 t.fl.p) ∧ W.cell? ⟨t.h, 3, none⟩ = some (.int .i64 t.fl.q)) (by kernel_rfl) (PS.out _ (Fr.refl _ _).drew) (fun hHeld => ?_)
        refine wpAnyH_take (i := 0) (v := ?_) rfl (by kernel_rfl) (by kernel_rfl) (by kernel_rfl) (fun _ _ _ h => h) (Or.inl ⟨by rfl, ?_⟩) hHeld ?_
        rotate_left 1
        · (intro w hSw; (try dsimp only at hSw); go_simp <;> with_reducible rfl)
        try simp only [Act.put, List.setIfInBounds_toArray, List.set_cons_zero, List.set_cons_succ, List.getElem_toArray, List.getElem_cons_succ, List.getElem_cons_zero]
        refine wpAnyH_take (i := 1) (v := ?_) rfl (by kernel_rfl) (by kernel_rfl) (by kernel_rfl) (fun _ _ _ h => h) (Or.inl ⟨by rfl, ?_⟩) hHeld ?_
        rotate_left 1
        · (intro w hSw; (try dsimp only at hSw); go_simp <;> with_reducible rfl)
        try simp only [Act.put, List.setIfInBounds_toArray, List.set_cons_zero, List.set_cons_succ, List.getElem_toArray, List.getElem_cons_succ, List.getElem_cons_zero]
        refine wpAnyH_take (i := 2) (v := ?_) rfl (by kernel_rfl) (by kernel_rfl) (by kernel_rfl) (fun _ _ _ h => h) (Or.inl ⟨by rfl, ?_⟩) hHeld ?_
        rotate_left 1
        · (intro w hSw; (try dsimp only at hSw); go_simp <;> with_reducible rfl)
        try simp only [Act.put, List.setIfInBounds_toArray, List.set_cons_zero, List.set_cons_succ, List.getElem_toArray, List.getElem_cons_succ, List.getElem_cons_zero]
        refine wpAnyH_take (i := 3) (v := ?_) rfl (by kernel_rfl) (by kernel_rfl) (by kernel_rfl) (fun _ _ _ h => h) (Or.inl ⟨by rfl, ?_⟩) hHeld ?_
        rotate_left 1
        · (intro w hSw; (try dsimp only at hSw); go_simp <;> with_reducible rfl)
        try simp only [Act.put, List.setIfInBounds_toArray, List.set_cons_zero, List.set_cons_succ, List.getElem_toArray, List.getElem_cons_succ, List.getElem_cons_zero]
        refine wpAnyH_take (i := 4) (v := ?_) rfl (by kernel_rfl) (by kernel_rfl) (by kernel_rfl) (fun _ _ _ h => h) (Or.inl ⟨by rfl, ?_⟩) hHeld ?_
        rotate_left 1
        · (intro w hSw; (try dsimp only at hSw); go_simp <;> with_reducible rfl)
        try simp only [Act.put, List.setIfInBounds_toArray, List.set_cons_zero, List.set_cons_succ, List.getElem_toArray, List.getElem_cons_succ, List.getElem_cons_zero]
        refine wpAnyH_take (i := 5) (v := ?_) rfl (by kernel_rfl) (by kernel_rfl) (by kernel_rfl) (fun _ _ _ h => h) (Or.inl ⟨by rfl, ?_⟩) hHeld ?_
        rotate_left 1
        · (intro w hSw; (try dsimp only at hSw); go_simp <;> with_reducible rfl)
        try simp only [Act.put, List.setIfInBounds_toArray, List.set_cons_zero, List.set_cons_succ, List.getElem_toArray, List.getElem_cons_succ, List.getElem_cons_zero]
        refine wpAnyH_take (i := 6) (v := ?_) rfl (by kernel_rfl) (by kernel_rfl) (by kernel_rfl) (fun _ _ _ h => h) (Or.inl ⟨by rfl, ?_⟩) hHeld ?_
        rotate_left 1
        · (intro w hSw; (try dsimp only at hSw); go_simp <;> with_reducible rfl)
        try simp only [Act.put, List.setIfInBounds_toArray, List.set_cons_zero, List.set_cons_succ, List.getElem_toArray, List.getElem_cons_succ, List.getElem_cons_zero]
        refine wpAnyH_take (i := 7) (v := ?_) rfl (by kernel_rfl) (by kernel_rfl) (by kernel_rfl) (fun _ _ _ h => h) (Or.inl ⟨by rfl, ?_⟩) hHeld ?_
        rotate_left 1
        · (intro w hSw; (try dsimp only at hSw); go_simp <;> with_reducible rfl)
        try simp only [Act.put, List.setIfInBounds_toArray, List.set_cons_zero, List.set_cons_succ, List.getElem_toArray, List.getElem_cons_succ, List.getElem_cons_zero]
        refine wpAnyH_take (i := 8) (v := ?_) rfl (by kernel_rfl) (by kernel_rfl) (by kernel_rfl) (fun _ _ _ h => h) (Or.inl ⟨by rfl, ?_⟩) hHeld ?_
        rotate_left 1
        · (intro w hSw; (try dsimp only at hSw); go_simp <;> with_reducible rfl)
        try simp only [Act.put, List.setIfInBounds_toArray, List.set_cons_zero, List.set_cons_succ, List.getElem_toArray, List.getElem_cons_succ, List.getElem_cons_zero]
        refine wpAnyH_take (i := 9) (v := ?_) rfl (by kernel_rfl) (by kernel_rfl) (by kernel_rfl) (fun _ _ _ h => h) (Or.inl ⟨by rfl, ?_⟩) hHeld ?_
        rotate_left 1
        · (intro w hSw; (try dsimp only at hSw); go_simp <;> with_reducible rfl)
        try simp only [Act.put, List.setIfInBounds_toArray, List.set_cons_zero, List.set_cons_succ, List.getElem_toArray, List.getElem_cons_succ, List.getElem_cons_zero]
        refine wpAnyH_take (i := 10) (v := ?_) rfl (by kernel_rfl) (by kernel_rfl) (by kernel_rfl) (fun _ _ _ h => h) (Or.inl ⟨by rfl, ?_⟩) hHeld ?_
        rotate_left 1
        · (intro w hSw; (try dsimp only at hSw); go_simp <;> with_reducible rfl)
        try simp only [Act.put, List.setIfInBounds_toArray, List.set_cons_zero, List.set_cons_succ, List.getElem_toArray, List.getElem_cons_succ, List.getElem_cons_zero]
        refine wpAnyH_take (i := 11) (v := ?_) rfl (by kernel_rfl) (by kernel_rfl) (by kernel_rfl) (fun _ _ _ h => h) (Or.inl ⟨by rfl, ?_⟩) hHeld ?_
        rotate_left 1
        · (intro w hSw; (try dsimp only at hSw); go_simp <;> with_reducible rfl)
        try simp only [Act.put, List.setIfInBounds_toArray, List.set_cons_zero, List.set_cons_succ, List.getElem_toArray, List.getElem_cons_succ, List.getElem_cons_zero]
        refine wpAnyH_take (i := 12) (v := ?_) rfl (by kernel_rfl) (by kernel_rfl) (by kernel_rfl) (fun _ _ _ h => h) (Or.inl ⟨by rfl, ?_⟩) hHeld ?_
        rotate_left 1
        · (intro w hSw; (try dsimp only at hSw); go_simp <;> with_reducible rfl)
        try simp only [Act.put, List.setIfInBounds_toArray, List.set_cons_zero, List.set_cons_succ, List.getElem_toArray, List.getElem_cons_succ, List.getElem_cons_zero]
        refine wpAnyH_take (i := 13) (v := ?_) rfl (by kernel_rfl) (by kernel_rfl) (by kernel_rfl) (fun _ _ _ h => h) (Or.inl ⟨by rfl, ?_⟩) hHeld ?_
        rotate_left 1
        · (intro w hSw; (try dsimp only at hSw); go_simp <;> with_reducible rfl)
        try simp only [Act.put, List.setIfInBounds_toArray, List.set_cons_zero, List.set_cons_succ, List.getElem_toArray, List.getElem_cons_succ, List.getElem_cons_zero]
        refine wpAnyH_take (i := 14) (v := ?_) rfl (by kernel_rfl) (by kernel_rfl) (by kernel_rfl) (fun _ _ _ h => h) (Or.inl ⟨by rfl, ?_⟩) hHeld ?_
        rotate_left 1
        · (intro w hSw; (try dsimp only at hSw); go_simp <;> with_reducible rfl)
        try simp only [Act.put, List.setIfInBounds_toArray, List.set_cons_zero, List.set_cons_succ, List.getElem_toArray, List.getElem_cons_succ, List.getElem_cons_zero]
        refine wpAnyH_take (i := 15) (v := ?_) rfl (by kernel_rfl) (by kernel_rfl) (by kernel_rfl) (fun _ _ _ h => h) (Or.inl ⟨by rfl, ?_⟩) hHeld ?_
        rotate_left 1
        · (intro w hSw; (try dsimp only at hSw); go_simp <;> with_reducible rfl)
        try simp only [Act.put, List.setIfInBounds_toArray, List.set_cons_zero, List.set_cons_succ, List.getElem_toArray, List.getElem_cons_succ, List.getElem_cons_zero]
        refine wpAnyH_ready (rs := [16]) (by kernel_rfl) (by simp) ?_
        refine AllReadyH.cons rfl (fun K hK => ?_) AllReadyH.nil
        clear hHeld
        go_simp
        go_at_call 17
        refine (HKC.out _).mono ?_
        rintro e w4 ⟨rfl, hacc⟩
        refine hK.out _ _ (PS.out _ ((Fr.refl _ _).drew.trans hacc)) (fun hHeld => ?_)
        clear hK K
        try simp only [Act.put, List.setIfInBounds_toArray, List.set_cons_zero, List.set_cons_succ, List.getElem_toArray, List.getElem_cons_succ, List.getElem_cons_zero]
        have HF4 := hid ((Fr.refl (fun _ => False) w3).drew.trans hacc)
        clear hacc
        refine wpAnyH_take (i := 17) (v := ?_) rfl (by kernel_rfl) (by kernel_rfl) (by kernel_rfl) (fun _ _ _ h => h) (Or.inl ⟨by rfl, ?_⟩) hHeld ?_
        rotate_left 1
        · (intro w hSw; (try dsimp only at hSw); go_simp <;> with_reducible rfl)
        try simp only [Act.put, List.setIfInBounds_toArray, List.set_cons_zero, List.set_cons_succ, List.getElem_toArray, List.getElem_cons_succ, List.getElem_cons_zero]
        refine wpAnyH_take (i := 18) (v := ?_) rfl (by kernel_rfl) (by kernel_rfl) (by kernel_rfl) (fun _ _ _ h => h) (Or.inl ⟨by rfl, ?_⟩) hHeld ?_
        rotate_left 1
        · (intro w hSw; (try dsimp only at hSw); go_simp <;> with_reducible rfl)
        try simp only [Act.put, List.setIfInBounds_toArray, List.set_cons_zero, List.set_cons_succ, List.getElem_toArray, List.getElem_cons_succ, List.getElem_cons_zero]
        refine wpAnyH_take (i := 19) (v := ?_) rfl (by kernel_rfl) (by kernel_rfl) (by kernel_rfl) (fun _ _ _ h => h) (Or.inl ⟨by rfl, ?_⟩) hHeld ?_
        rotate_left 1
        · (intro w hSw; (try dsimp only at hSw); go_simp <;> with_reducible rfl)
        try simp only [Act.put, List.setIfInBounds_toArray, List.set_cons_zero, List.set_cons_succ, List.getElem_toArray, List.getElem_cons_succ, List.getElem_cons_zero]
        refine wpAnyH_done (by kernel_rfl) ?_ _
        clear hHeld
        have HX4 := hid (HG3.out.blk.keep HF4.out (fun h => h))
        have HB4 := hid (HB3.out.keep HF4.out (fun h => h))
        go_wp2_with (first | (refine wpList_load_part rfl 32 _ rfl aggKey p 1 rfl HX4.out #[.int .i64 la.s, .int .i64 la.r, .int .i64 la.p, .int .i64 la.q] rfl rfl ?_) | (refine wpList_store_part rfl 32 _ _ rfl aggKey z 0 rfl HB4.out (.agg #[.int .i64 la.s, .int .i64 la.r, .int .i64 la.p, .int .i64 la.q]) rfl rfl (one_key la) (by decide) #[.int .i64 la.s, .int .i64 la.r, .int .i64 la.p, .int .i64 la.q] rfl ?_))
        intro w5 B5 f5 z5
        have HF5 := hid ((HF3.out.trans HF4.out).into f5 (by have := HZ1.out; omega))
        go_wp2_with fail
        exact bodyPost_ret (v := .agg #[.int .i64 la.s, .int .i64 la.r, .int .i64 la.p, .int .i64 la.q]) (results_cell1 rfl _ aggKey rfl B5 rfl) rfl ⟨by rw [HA.out]; rfl, HF5.out⟩
      · have d1 : decide (C ≤ 0) = false := decide_eq_false hC
        rw [if_neg hC] at HA
        clear hC
        go_wp2_with fail
        refine wp_region_held_drew (S := fun W => W.cell? ⟨s.h, 4, none⟩ = some (.slice (some ⟨g, o, none⟩) N cap) ∧ W.cell? ⟨g, o, none⟩ = some (.int .i64 k.s) ∧ W.cell? ⟨g, o + 1, none⟩ = some (.int .i64 k.r) ∧ W.cell? ⟨g, o + 2, none⟩ = some (.int .i64 k.p) ∧ W.cell? ⟨g, o + 3, none⟩ = some (.int .i64 k.q) ∧ W.cell? ⟨t.h, 0, none⟩ = some (.int .i64 t.fl.s) ∧ W.cell? ⟨t.h, 1, none⟩ = some (.int .i64 t.fl.r) ∧ W.cell? ⟨t.h, 2, none⟩ = some (.int .i64 t.fl.p) ∧ W.cell? ⟨t.h, 3, none⟩ = some (.int .i64 t.fl.q)) (by kernel_rfl) (PS.out _ (Fr.refl _ _).drew) (fun hHeld => ?_)
        refine wpAnyH_take (i := 0) (v := ?_) rfl (by kernel_rfl) (by kernel_rfl) (by kernel_rfl) (fun _ _ _ h => h) (Or.inl ⟨by rfl, ?_⟩) hHeld ?_
        rotate_left 1
        · (intro w hSw; (try dsimp only at hSw); go_simp <;> with_reducible rfl)
        try simp only [Act.put, List.setIfInBounds_toArray, List.set_cons_zero, List.set_cons_succ, List.getElem_toArray, List.getElem_cons_succ, List.getElem_cons_zero]
        refine wpAnyH_take (i := 1) (v := ?_) rfl (by kernel_rfl) (by kernel_rfl) (by kernel_rfl) (fun _ _ _ h => h) (Or.inl ⟨by rfl, ?_⟩) hHeld ?_
        rotate_left 1
        · (intro w hSw; (try dsimp only at hSw); go_simp <;> with_reducible rfl)
        try simp only [Act.put, List.setIfInBounds_toArray, List.set_cons_zero, List.set_cons_succ, List.getElem_toArray, List.getElem_cons_succ, List.getElem_cons_zero]
        refine wpAnyH_take (i := 2) (v := ?_) rfl (by kernel_rfl) (by kernel_rfl) (by kernel_rfl) (fun _ _ _ h => h) (Or.inl ⟨by rfl, ?_⟩) hHeld ?_
        rotate_left 1
        · (intro w hSw; (try dsimp only at hSw); go_simp <;> with_reducible rfl)
        try simp only [Act.put, List.setIfInBounds_toArray, List.set_cons_zero, List.set_cons_succ, List.getElem_toArray, List.getElem_cons_succ, List.getElem_cons_zero]
        refine wpAnyH_take (i := 3) (v := ?_) rfl (by kernel_rfl) (by kernel_rfl) (by kernel_rfl) (fun _ _ _ h => h) (Or.inl ⟨by rfl, ?_⟩) hHeld ?_
        rotate_left 1
        · (intro w hSw; (try dsimp only at hSw); go_simp <;> with_reducible rfl)
        try simp only [Act.put, List.setIfInBounds_toArray, List.set_cons_zero, List.set_cons_succ, List.getElem_toArray, List.getElem_cons_succ, List.getElem_cons_zero]
        refine wpAnyH_take (i := 4) (v := ?_) rfl (by kernel_rfl) (by kernel_rfl) (by kernel_rfl) (fun _ _ _ h => h) (Or.inl ⟨by rfl, ?_⟩) hHeld ?_
        rotate_left 1
        · (intro w hSw; (try dsimp only at hSw); go_simp <;> with_reducible rfl)
        try simp only [Act.put, List.setIfInBounds_toArray, List.set_cons_zero, List.set_cons_succ, List.getElem_toArray, List.getElem_cons_succ, List.getElem_cons_zero]
        refine wpAnyH_take (i := 5) (v := ?_) rfl (by kernel_rfl) (by kernel_rfl) (by kernel_rfl) (fun _ _ _ h => h) (Or.inl ⟨by rfl, ?_⟩) hHeld ?_
        rotate_left 1
        · (intro w hSw; (try dsimp only at hSw); go_simp <;> with_reducible rfl)
        try simp only [Act.put, List.setIfInBounds_toArray, List.set_cons_zero, List.set_cons_succ, List.getElem_toArray, List.getElem_cons_succ, List.getElem_cons_zero]
        refine wpAnyH_take (i := 6) (v := ?_) rfl (by kernel_rfl) (by kernel_rfl) (by kernel_rfl) (fun _ _ _ h => h) (Or.inl ⟨by rfl, ?_⟩) hHeld ?_
        rotate_left 1
        · (intro w hSw; (try dsimp only at hSw); go_simp <;> with_reducible rfl)
        try simp only [Act.put, List.setIfInBounds_toArray, List.set_cons_zero, List.set_cons_succ, List.getElem_toArray, List.getElem_cons_succ, List.getElem_cons_zero]
        refine wpAnyH_take (i := 7) (v := ?_) rfl (by kernel_rfl) (by kernel_rfl) (by kernel_rfl) (fun _ _ _ h => h) (Or.inl ⟨by rfl, ?_⟩) hHeld ?_
        rotate_left 1
        · (intro w hSw; (try dsimp only at hSw); go_simp <;> with_reducible rfl)
        try simp only [Act.put, List.setIfInBounds_toArray, List.set_cons_zero, List.set_cons_succ, List.getElem_toArray, List.getElem_cons_succ, List.getElem_cons_zero]
        refine wpAnyH_take (i := 8) (v := ?_) rfl (by kernel_rfl) (by kernel_rfl) (by kernel_rfl) (fun _ _ _ h => h) (Or.inl ⟨by rfl, ?_⟩) hHeld ?_
        rotate_left 1
        · (intro w hSw; (try dsimp only at hSw); go_simp <;> with_reducible rfl)
        try simp only [Act.put, List.setIfInBounds_toArray, List.set_cons_zero, List.set_cons_succ, List.getElem_toArray, List.getElem_cons_succ, List.getElem_cons_zero]
        refine wpAnyH_take (i := 9) (v := ?_) rfl (by kernel_rfl) (by kernel_rfl) (by kernel_rfl) (fun _ _ _ h => h) (Or.inl ⟨by rfl, ?_⟩) hHeld ?_
        rotate_left 1
        · (intro w hSw; (try dsimp only at hSw); go_simp <;> with_reducible rfl)
        try simp only [Act.put, List.setIfInBounds_toArray, List.set_cons_zero, List.set_cons_succ, List.getElem_toArray, List.getElem_cons_succ, List.getElem_cons_zero]
        refine wpAnyH_take (i := 10) (v := ?_) rfl (by kernel_rfl) (by kernel_rfl) (by kernel_rfl) (fun _ _ _ h => h) (Or.inl ⟨by rfl, ?_⟩) hHeld ?_
        rotate_left 1
        · (intro w hSw; (try dsimp only at hSw); go_simp <;> with_reducible rfl)
        try simp only [Act.put, List.setIfInBounds_toArray, List.set_cons_zero, List.set_cons_succ, List.getElem_toArray, List.getElem_cons_succ, List.getElem_cons_zero]
        refine wpAnyH_take (i := 11) (v := ?_) rfl (by kernel_rfl) (by kernel_rfl) (by kernel_rfl) (fun _ _ _ h => h) (Or.inl ⟨by rfl, ?_⟩) hHeld ?_
        rotate_left 1
        · (intro w hSw; (try dsimp only at hSw); go_simp <;> with_reducible rfl)
        try simp only [Act.put, List.setIfInBounds_toArray, List.set_cons_zero, List.set_cons_succ, List.getElem_toArray, List.getElem_cons_succ, List.getElem_cons_zero]
        refine wpAnyH_take (i := 12) (v := ?_) rfl (by kernel_rfl) (by kernel_rfl) (by kernel_rfl) (fun _ _ _ h => h) (Or.inl ⟨by rfl, ?_⟩) hHeld ?_
        rotate_left 1
        · (intro w hSw; (try dsimp only at hSw); go_simp <;> with_reducible rfl)
        try simp only [Act.put, List.setIfInBounds_toArray, List.set_cons_zero, List.set_cons_succ, List.getElem_toArray, List.getElem_cons_succ, List.getElem_cons_zero]
        refine wpAnyH_take (i := 13) (v := ?_) rfl (by kernel_rfl) (by kernel_rfl) (by kernel_rfl) (fun _ _ _ h => h) (Or.inl ⟨by rfl, ?_⟩) hHeld ?_
        rotate_left 1
        · (intro w hSw; (try dsimp only at hSw); go_simp <;> with_reducible rfl)
        try simp only [Act.put, List.setIfInBounds_toArray, List.set_cons_zero, List.set_cons_succ, List.getElem_toArray, List.getElem_cons_succ, List.getElem_cons_zero]
        refine wpAnyH_take (i := 14) (v := ?_) rfl (by kernel_rfl) (by kernel_rfl) (by kernel_rfl) (fun _ _ _ h => h) (Or.inl ⟨by rfl, ?_⟩) hHeld ?_
        rotate_left 1
        · (intro w hSw; (try dsimp only at hSw); go_simp <;> with_reducible rfl)
        try simp only [Act.put, List.setIfInBounds_toArray, List.set_cons_zero, List.set_cons_succ, List.getElem_toArray, List.getElem_cons_succ, List.getElem_cons_zero]
        refine wpAnyH_take (i := 15) (v := ?_) rfl (by kernel_rfl) (by kernel_rfl) (by kernel_rfl) (fun _ _ _ h => h) (Or.inl ⟨by rfl, ?_⟩) hHeld ?_
        rotate_left 1
        · (intro w hSw; (try dsimp only at hSw); go_simp <;> with_reducible rfl)
        try simp only [Act.put, List.setIfInBounds_toArray, List.set_cons_zero, List.set_cons_succ, List.getElem_toArray, List.getElem_cons_succ, List.getElem_cons_zero]
        refine wpAnyH_ready (rs := [16]) (by kernel_rfl) (by simp) ?_
        refine AllReadyH.cons rfl (fun K hK => ?_) AllReadyH.nil
        clear hHeld
        go_simp
        go_at_call 17
        refine (HKC.out _).mono ?_
        rintro e w4 ⟨rfl, hacc⟩
        refine hK.out _ _ (PS.out _ ((Fr.refl _ _).drew.trans hacc)) (fun hHeld => ?_)
        clear hK K
        try simp only [Act.put, List.setIfInBounds_toArray, List.set_cons_zero, List.set_cons_succ, List.getElem_toArray, List.getElem_cons_succ, List.getElem_cons_zero]
        have HF4 := hid ((Fr.refl (fun _ => False) w3).drew.trans hacc)
        clear hacc
        refine wpAnyH_take (i := 17) (v := ?_) rfl (by kernel_rfl) (by kernel_rfl) (by kernel_rfl) (fun _ _ _ h => h) (Or.inl ⟨by rfl, ?_⟩) hHeld ?_
        rotate_left 1
        · (intro w hSw; (try dsimp only at hSw); go_simp <;> with_reducible rfl)
        try simp only [Act.put, List.setIfInBounds_toArray, List.set_cons_zero, List.set_cons_succ, List.getElem_toArray, List.getElem_cons_succ, List.getElem_cons_zero]
        refine wpAnyH_take (i := 18) (v := ?_) rfl (by kernel_rfl) (by kernel_rfl) (by kernel_rfl) (fun _ _ _ h => h) (Or.inl ⟨by rfl, ?_⟩) hHeld ?_
        rotate_left 1
        · (intro w hSw; (try dsimp only at hSw); go_simp <;> with_reducible rfl)
        try simp only [Act.put, List.setIfInBounds_toArray, List.set_cons_zero, List.set_cons_succ, List.getElem_toArray, List.getElem_cons_succ, List.getElem_cons_zero]
        refine wpAnyH_take (i := 19) (v := ?_) rfl (by kernel_rfl) (by kernel_rfl) (by kernel_rfl) (fun _ _ _ h => h) (Or.inl ⟨by rfl, ?_⟩) hHeld ?_
        rotate_left 1
        · (intro w hSw; (try dsimp only at hSw); go_simp <;> with_reducible rfl)
        try simp only [Act.put, List.setIfInBounds_toArray, List.set_cons_zero, List.set_cons_succ, List.getElem_toArray, List.getElem_cons_succ, List.getElem_cons_zero]
        refine wpAnyH_done (by kernel_rfl) ?_ _
        clear hHeld
        have HX4 := hid (HE.out.keep HF4.out (fun h => h))
        have HB4 := hid (HB3.out.keep HF4.out (fun h => h))
        go_wp2_with (first | (refine wpList_load_part rfl 32 _ rfl aggKey t.h 0 rfl HX4.out #[.int .i64 t.fl.s, .int .i64 t.fl.r, .int .i64 t.fl.p, .int .i64 t.fl.q] rfl rfl ?_) | (refine wpList_store_part rfl 32 _ _ rfl aggKey z 0 rfl HB4.out (.agg #[.int .i64 t.fl.s, .int .i64 t.fl.r, .int .i64 t.fl.p, .int .i64 t.fl.q]) rfl rfl (one_key t.fl) (by decide) #[.int .i64 t.fl.s, .int .i64 t.fl.r, .int .i64 t.fl.p, .int .i64 t.fl.q] rfl ?_))
        intro w5 B5 f5 z5
        have HF5 := hid ((HF3.out.trans HF4.out).into f5 (by have := HZ1.out; omega))
        go_wp2_with fail
        exact bodyPost_ret (v := .agg #[.int .i64 t.fl.s, .int .i64 t.fl.r, .int .i64 t.fl.p, .int .i64 t.fl.q]) (results_cell1 rfl _ aggKey rfl B5 rfl) rfl ⟨by rw [HA.out]; rfl, HF5.out⟩
end
end Go.Proofs.Ytfkffjjkmckpnaa
