/-
  ROWS OF ENTRIES; WHAT slices.Grow AND slices.Concat OF ENTRIES ANSWER. Conditions: at most a thousand entries.
-/
import Derived.Test.YtecngibenlcdiaaCm5
import Derived.Lib.AppendZerosOnto
import Derived.WalkSpells
namespace Go.Proofs.Ytecngibenlcdiaa
open Go.RowKit Go.ChangeShapes Go.WideShapes Go.Deep

def ents (L : List Ent) : List Value := L.flatMap Ent.cells
theorem ents_len (L : List Ent) : (ents L).length = L.length * 6 := by
  induction L with
  | nil => rfl
  | cons e r ih =>
    show (e.cells ++ ents r).length = _
    rw [List.length_append, ih]
    simp [Ent.cells]; omega
theorem ents_append (a b : List Ent) : ents (a ++ b) = ents a ++ ents b := by simp [ents]
theorem ents_at {L : List Ent} {i j : Nat} (hi : i < L.length) (hj : j < 6) : (ents L)[i * 6 + j]? = (L.getD i ez).cells[j]? := by
  induction L generalizing i with
  | nil => simp at hi
  | cons e r ih =>
    show (e.cells ++ ents r)[i * 6 + j]? = _
    have hc : e.cells.length = 6 := rfl
    cases i with
    | zero =>
      rw [List.getElem?_append_left (by omega)]
      simp
    | succ i =>
      rw [List.getElem?_append_right (by omega), show (i + 1) * 6 + j - e.cells.length = i * 6 + j by omega, ih (by simpa using hi)]
      rfl
theorem ents_one (L : List Ent) : ∀ u ∈ ents L, u.oneCell' = true := by
  intro u hu
  obtain ⟨e, _, he⟩ := List.mem_flatMap.1 hu
  simp [Ent.cells] at he
  rcases he with rfl | rfl | rfl | rfl | rfl | rfl <;> rfl
theorem IsEs.of_row {w : World} {base : Nat} {t : TypeId} {v : Value} {L : List Ent} (h : w.ownsRow base t 6 v L.length (ents L)) : IsEs w v L := by
  rcases h.2 with ⟨rfl, h0⟩ | ⟨g, cap, cur, rfl, hg, hh, hc, hm, hs, ht⟩
  · have : L = [] := List.eq_nil_of_length_eq_zero (by omega)
    subst this
    exact IsEs.nil w
  · refine ⟨_, cap, rfl, hc, hm, fun h => by simp at h, fun i hi => ⟨g, 0, rfl, lt_of_block hh, fun j hj => ?_⟩⟩
    rw [← ents_at hi hj]
    have := h.cells (g := g) rfl (i * 6 + j)
    have hlt : i * 6 + j < (ents L).length := by rw [ents_len]; omega
    have h2 := this _ (List.getElem?_eq_getElem hlt)
    rw [Addr.add_lit] at h2
    rw [h2, List.getElem?_eq_getElem hlt]
theorem IsEs.src {w : World} {v : Value} {L : List Ent} (h : IsEs w v L) : (v = .slice none 0 0 ∧ L = []) ∨ ∃ ad c, v = .slice (some ad) L.length c ∧ ∀ j u, (ents L)[j]? = some u → w.cell? (ad.add j) = some u := by
  obtain ⟨ao, cap, rfl, h1, h2, h3, h4⟩ := h.is
  cases ao with
  | none =>
    have := h3 rfl; subst this
    have : L = [] := List.eq_nil_of_length_eq_zero (by omega)
    subst this; exact .inl ⟨rfl, rfl⟩
  | some ad =>
    refine .inr ⟨ad, cap, rfl, fun j u hu => ?_⟩
    have hj : j < L.length * 6 := by
      rw [← ents_len]
      exact Decidable.byContradiction fun hn => by rw [List.getElem?_eq_none (by omega)] at hu; cases hu
    obtain ⟨b, off, q1, q2, q3⟩ := h4 (j / 6) (by omega)
    injection q1 with q1; subst q1
    have e := q3 (j % 6) (by omega)
    have e2 := ents_at (L := L) (i := j / 6) (j := j % 6) (by omega) (by omega)
    rw [show j / 6 * 6 + j % 6 = j by omega] at e e2
    rw [Addr.add_lit, e, ← e2, hu]
theorem infoEnt : (Try.prog.info? 28).map (fun i => (i.zero, i.size, i.bytes)) = some (some (.agg #[.int .i64 0, .int .i64 0, .int .i64 0, .int .i64 0, .int .i64 0, .int .i64 0]), 6, 48) := by kernel_rfl
theorem entI : ∃ i, Try.prog.info? 28 = some i ∧ i.zero = some (.agg #[.int .i64 0, .int .i64 0, .int .i64 0, .int .i64 0, .int .i64 0, .int .i64 0]) ∧ i.size = 6 ∧ i.bytes = 48 := by
  have := infoEnt
  cases h : Try.prog.info? 28 with
  | none => rw [h] at this; simp at this
  | some i => rw [h] at this; simp at this; exact ⟨i, rfl, by simpa using this.1, this.2.1, this.2.2⟩

/-- 'append' of any slice of entries onto a row of one's own. -/
theorem wpList_append_es {w : World} {ops : Array Oper} {rest : List Oper} {o : Oper} {a : Act} {Q : Exit → Act → World → Prop} (hgd : o.guard = none) (s x : Operand)
    (hop : o.op = Op.call { callee := Callee.builtin Builtin.append, args := #[s, x], argTypes := #[24, 24] })
    (v : Value) (K L : List Ent) (hs : a.eval s = v) (hown : w.ownsRow 0 28 6 v K.length (ents K)) (u : Value) (hx : a.eval x = u) (hv : IsEs w u L) (b1 : K.length + L.length ≤ 100000)
    (hK : ∀ v' w', w'.ownsRow 0 28 6 v' (K ++ L).length (ents (K ++ L)) → Fr (· ∈ footOf v) w w' → Grows w (footOf v) (footOf v') → wpList Try.prog ops Q rest (a.put o.dst v') w') :
    wpList Try.prog ops Q (o :: rest) a w := by
  obtain ⟨i, hi, i1, i2, i3⟩ := entI
  rcases hv.src with ⟨rfl, rfl⟩ | ⟨ad, c, rfl, hc⟩
  · refine wpList_plain hgd fun K' hK' => ?_
    have hrun := run_append_owned_none (P := Try.prog) (w := w) 0 24 o.type 28 i 6 Try.underlying24 hi v K.length (ents K) hown
    unfold Oper.wp
    simp [execOp, hop, resolve, invoke, builtin, hs, hx, hrun, Result.andThen]
    exact hK' _ _ (hK v w (by simpa using hown) (Fr.refl _ _) (Grows.refl _ _))
  · exact wpList_append_row hgd s x 24 hop 28 i _ 6 48 Try.underlying24 hi i1 i2 i3 rfl (by omega) v K.length (ents K) hs hown ad L.length c (ents L) hx (ents_len L) hc (ents_one L) (by unfold maxLen; omega) (by omega)
      (fun v' w' q1 q2 q3 _ => hK v' w' (by rw [List.length_append, ents_append]; exact q1) q2 q3)

theorem wpList_append_run {P : Program} {w : World} {ops : Array Oper} {rest : List Oper} {o : Oper} {a : Act} {Q : Exit → Act → World → Prop} (hgd : o.guard = none) (s x : Operand) (t tn : TypeId)
    (hop : o.op = Op.call { callee := Callee.builtin Builtin.append, args := #[s, x], argTypes := #[t, tn] }) (sv xv : Value) (hs : a.eval s = sv) (hx : a.eval x = xv) (v' : Value) (w' : World)
    (hrun : (Builtin.append_ #[t, tn] o.type #[sv, xv]).run P w = .ok v' w') (h : wpList P ops Q rest (a.put o.dst v') w') : wpList P ops Q (o :: rest) a w := by
  refine wpList_plain hgd fun K hK => ?_
  unfold Oper.wp
  simp [execOp, hop, resolve, invoke, builtin, hs, hx, hrun, Result.andThen]
  exact hK _ _ h

set_option maxRecDepth 100000 in
set_option maxHeartbeats 1000000 in
theorem grow_nil (m : Nat) (w : World) (h0 : 0 < m) (h1 : m ≤ 1000) :
    Calls Try.prog 61 #[.slice none 0 0, .int .i64 (m : Int)] w fun e w' => ∃ v', e = .returned v' ∧ w'.ownsRow 0 28 6 v' 0 [] ∧ Fr (fun _ => False) w w' ∧ Above w.heap.size (footOf v') := by
  obtain ⟨i, hi, i1, i2, i3⟩ := entI
  have hrun := Lib.run_append_grow_zeros (P := Try.prog) w 24 3 24 28 i _ .i64 .i64 Try.underlying24 Try.underlying3 hi i1 none 0 0 [] (by simp [Builtin.firstCells]) m h0 (by omega) (by omega) (by omega) (by rw [i3]; omega) (growslice_fits (by omega) (by rw [i3]; omega))
  have hge := grownCap_ge w (0 + m) 0 28
  have hle := grownCap_le_maxLen w (0 + m) 0 28 (by unfold maxLen; omega)
  have hF : Fr (fun _ => False) w (w.drew.alloc (.cells ([].toArray ++ Builtin.zeroCells (Value.agg #[.int .i64 0, .int .i64 0, .int .i64 0, .int .i64 0, .int .i64 0, .int .i64 0]).cells m ++ Builtin.zeroCells (Value.agg #[.int .i64 0, .int .i64 0, .int .i64 0, .int .i64 0, .int .i64 0, .int .i64 0]).cells (grownCap w (0 + m) 0 28 - (0 + m))) 28)) := ((Fr.refl _ w).drew).alloc _
  have hrow : (w.drew.alloc (.cells ([].toArray ++ Builtin.zeroCells (Value.agg #[.int .i64 0, .int .i64 0, .int .i64 0, .int .i64 0, .int .i64 0, .int .i64 0]).cells m ++ Builtin.zeroCells (Value.agg #[.int .i64 0, .int .i64 0, .int .i64 0, .int .i64 0, .int .i64 0, .int .i64 0]).cells (grownCap w (0 + m) 0 28 - (0 + m))) 28)).ownsRow w.heap.size 28 6 (.slice (some ⟨w.heap.size, 0, none⟩) 0 (grownCap w (0 + m) 0 28)) 0 [] := by
    refine ⟨by simp, .inr ⟨w.heap.size, _, _, rfl, Nat.le_refl _, heap_alloc_new w.drew _, by omega, hle, ?_, by simp⟩⟩
    simp only [Array.size_append, size_zeroCells]
    generalize grownCap w (0 + m) 0 28 = G at *
    show 0 + m * 6 + (G - (0 + m)) * 6 = G * 6
    omega
  generalize grownCap w (0 + m) 0 28 = G at *
  generalize (w.drew.alloc (.cells ([].toArray ++ Builtin.zeroCells (Value.agg #[.int .i64 0, .int .i64 0, .int .i64 0, .int .i64 0, .int .i64 0, .int .i64 0]).cells m ++ Builtin.zeroCells (Value.agg #[.int .i64 0, .int .i64 0, .int .i64 0, .int .i64 0, .int .i64 0, .int .i64 0]).cells (G - (0 + m))) 28)) = w2 at *
  have HG := hid hge
  have HL := hid hle
  have hG : (G : Int) ≤ 9223372036854775807 := by unfold maxLen at hle; omega
  clear hge hle
  have hd0 : decide ((m : Int) < 0) = false := decide_eq_false (by omega)
  have hd1 : decide (0 < (m : Int)) = true := decide_eq_true (by omega)
  have hwm : wrap64 (m : Int) = m := by simp only [wrap64]; omega
  go_enter Try.func61, Try.ntmps61
  go_wp2_with (refine wpList_append_run rfl _ _ 24 3 rfl _ _ rfl rfl _ _ hrun ?_)
  refine bodyPost_ret (v := .slice (some ⟨w.heap.size, 0, none⟩) 0 G) (by simp [results, Try.results61, go_sem]) rfl ⟨_, rfl, row_base hrow (fun k hk => Nat.zero_le _), hF, fun k hk => ?_⟩
  simp [footOf, Value.ownBlock] at hk
  exact Nat.le_of_eq hk.symm

set_option maxRecDepth 100000 in
set_option maxHeartbeats 1000000 in
theorem concat_any (b : Nat) (v1 v2 : Value) (L1 L2 : List Ent) (w : World) (c1 : w.cell? ⟨b, 0, none⟩ = some v1) (c2 : w.cell? ⟨b, 1, none⟩ = some v2) (h1 : IsEs w v1 L1) (h2 : IsEs w v2 L2) (h0 : 0 < L1.length) (hm : L1.length + L2.length ≤ 1000) :
    Calls Try.prog 45 #[.slice (some ⟨b, 0, none⟩) 2 2] w fun e w' => ∃ v', e = .returned v' ∧ w'.ownsRow 0 28 6 v' (L1 ++ L2).length (ents (L1 ++ L2)) ∧ Fr (fun _ => False) w w' ∧ Above w.heap.size (footOf v') := by
  have HG := hid (fun W => grow_nil (L1.length + L2.length) W (by omega) hm)
  have H1 := hid h1
  have H2 := hid h2
  have HC := hid (⟨c1, c2⟩ : w.cell? ⟨b, 0, none⟩ = some v1 ∧ w.cell? ⟨b, 1, none⟩ = some v2)
  obtain ⟨a1, k1, rfl, _, _⟩ := h1.len
  obtain ⟨a2, k2, rfl, _, _⟩ := h2.len
  clear h1 h2
  obtain ⟨N, hN⟩ : ∃ N, N = L1.length := ⟨_, rfl⟩
  obtain ⟨M, hM⟩ : ∃ M, M = L2.length := ⟨_, rfl⟩
  have HN := hid hN
  have HM := hid hM
  rw [← hN] at H1 HG HC h0 hm c1
  rw [← hM] at H2 HG HC hm c2
  clear hN hM
  go_enter Try.func45, Try.ntmps45
  go_wp2_with fail
  go_loopw [3, 5, 11] (fun s _ i wr => wr = w ∧ ∃ k : Nat, k ≤ 2 ∧ i = .int .i64 k ∧ s = .int .i64 ((if k = 0 then 0 else if k = 1 then N else N + M : Nat) : Int)) (fun _ _ i _ => 2 - (intOf i).toNat)
  case atStart => exact ⟨rfl, 0, by omega, rfl, rfl⟩
  case round =>
    obtain ⟨hw, k, hk, rfl, rfl⟩ := hrel
    have hw' := hw.symm
    clear hw
    subst hw'
    have hk3 : k = 0 ∨ k = 1 ∨ k = 2 := by omega
    rcases hk3 with rfl | rfl | rfl
    · have hq : (if (0 : Nat) = 0 then 0 else if (0 : Nat) = 1 then N else N + M) = 0 := rfl
      rw [hq]
      clear hq
      go_wp2_with fail
      go_roundw
      case rel => exact ⟨by trivial, 1, by omega, rfl, by simp⟩
      case measure => simp [intOf]
    · have hq : (if (1 : Nat) = 0 then 0 else if (1 : Nat) = 1 then N else N + M) = N := rfl
      rw [hq]
      clear hq
      have hwr : wrap64 ((N : Int) + M) = ((N + M : Nat) : Int) := by simp only [wrap64]; omega
      have hd0 : decide (((N + M : Nat) : Int) < 0) = false := decide_eq_false (by omega)
      go_wp2_with fail
      go_roundw
      case rel => exact ⟨by trivial, 2, by omega, rfl, rfl⟩
      case measure => simp [intOf]
    · have hq : (if (2 : Nat) = 0 then 0 else if (2 : Nat) = 1 then N else N + M) = N + M := rfl
      rw [hq]
      clear hq
      go_wp2_with fail
      refine (HG.out _).mono ?_
      rintro e w2 ⟨v0, rfl, hr0, f0, ha0⟩
      go_wp2_with fail
      go_loopw [6, 8, 27] (fun v _ i wr => ∃ k : Nat, k ≤ 2 ∧ i = .int .i64 k ∧ ∃ K, K = (if k = 0 then [] else if k = 1 then L1 else L1 ++ L2) ∧ wr.ownsRow 0 28 6 v K.length (ents K) ∧ Fr (fun _ => False) w wr ∧ Above w.heap.size (footOf v)) (fun _ _ i _ => 2 - (intOf i).toNat)
      case atStart => exact ⟨0, by omega, rfl, [], rfl, hr0, f0, ha0⟩
      case round =>
        obtain ⟨k, hk, rfl, K, hK, hr, hf, hab⟩ := hrel
        have HR := hid hr
        have HF := hid hf
        have HA := hid hab
        have HS := hid HF.out.size
        have e1 := cell_fr hf HC.out.1
        have e2 := cell_fr hf HC.out.2
        clear hr hf hab hr0 f0 ha0 c1 c2
        have hk3 : k = 0 ∨ k = 1 ∨ k = 2 := by omega
        rcases hk3 with rfl | rfl | rfl
        · have hK2 : K = [] := hK
          subst hK2
          clear hK
          go_wp2_with (at_builtin; refine wpList_append_es rfl _ _ rfl _ [] L1 rfl HR.out _ rfl (H1.out.keep0 HF.out) (by have := HN.out; simp; omega) ?_)
          intro v' w3 hr3 f3 g3
          have hf3 : Fr (fun _ => False) w w3 := HF.out.own f3 HA.out
          have ha3 : Above w.heap.size (footOf v') := HA.out.grows g3 HS.out
          clear e1 e2 f3 g3
          go_wp2_with fail
          go_roundw
          case rel => exact ⟨1, by omega, rfl, L1, rfl, hr3, hf3, ha3⟩
          case measure => simp [intOf]
        · have hK2 : K = L1 := hK
          subst hK2
          clear hK
          go_wp2_with (at_builtin; refine wpList_append_es rfl _ _ rfl _ K L2 rfl HR.out _ rfl (H2.out.keep0 HF.out) (by have := HN.out; have := HM.out; omega) ?_)
          intro v' w3 hr3 f3 g3
          have hf3 : Fr (fun _ => False) w w3 := HF.out.own f3 HA.out
          have ha3 : Above w.heap.size (footOf v') := HA.out.grows g3 HS.out
          clear e1 e2 f3 g3
          go_wp2_with fail
          go_roundw
          case rel => exact ⟨2, by omega, rfl, K ++ L2, rfl, by rw [List.length_append]; exact hr3, hf3, ha3⟩
          case measure => simp [intOf]
        · have hK2 : K = L1 ++ L2 := hK
          subst hK2
          clear hK e1 e2
          obtain ⟨ao, cap, rfl⟩ := rowN_shape HR.out
          go_wp2_with fail
          go_ret
          exact ⟨_, rfl, HR.out, HF.out, HA.out⟩
end Go.Proofs.Ytecngibenlcdiaa
