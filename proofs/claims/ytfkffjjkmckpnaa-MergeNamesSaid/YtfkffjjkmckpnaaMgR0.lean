/-
  MERGES (ch 25): KEYS RISE, in plain Lean; loads of structs whose cells are known. Conditions: none; no walk.
-/
import Derived.Test.YtfkffjjkmckpnaaDo
namespace Go.Proofs.Ytfkffjjkmckpnaa
open Go.RowKit Go.ChangeShapes Go.WideShapes Go.Deep

set_option linter.unusedSimpArgs false
section
variable {P : Program} {w : World} {ops : Array Oper} {rest : List Oper} {o : Oper} {a : Act} {Q : Exit → Act → World → Prop} {S : World → Prop}
theorem run_load_cells {ty : TypeId} {n : Nat} (hT : AggT P ty n) {g off : Nat} (xs : Array Value) (hc : ∀ j u, xs.toList[j]? = some u → w.cell? ⟨g, off + j, none⟩ = some u) (hn : xs.size = n) :
    (loadVar ty ⟨g, off, none⟩).run P w = .ok (.agg xs) w := by
  obtain ⟨⟨d, hu, hd⟩, hi⟩ := hT
  subst hn
  have hl : (loadCells ⟨g, off, none⟩ xs.toList.length).run P w = .ok xs.toList.toArray w :=
    run_loadCells_list (P := P) w ⟨g, off, none⟩ xs.toList (fun j v hv => by
      have hadd : (⟨g, off, none⟩ : Addr).add j = ⟨g, off + j, none⟩ := by unfold Addr.add; split <;> simp_all
      rw [hadd]
      exact hc j v hv)
  cases hq : P.info? ty with
  | none => simp [hq] at hi
  | some i =>
    have hs : i.size = xs.size := by simpa [hq] using hi
    have hagg : (isAgg ty).run P w = .ok true w := by
      unfold isAgg
      rw [Sem.run_bind, run_underlying hu w]
      cases d <;> simp_all
    simp only [Array.length_toList, Array.toArray_toList] at hl
    simp [loadVar, Sem.run_bind, hagg, sizeOf, typeInfo, hq, hs, hl]
theorem wpList_load_cells (hgd : Region.wanted o (yielded ops a.tmps) = true) (ty : TypeId) (x : Operand) (ho : o.op = .load ty x) {n : Nat} (hT : AggT P ty n) (g off : Nat) (hx : a.eval x = .pointer (some ⟨g, off, none⟩)) (xs : Array Value) (hc : ∀ j u, xs.toList[j]? = some u → w.cell? ⟨g, off + j, none⟩ = some u) (hn : xs.size = n)
    (h : wpList P ops Q rest (a.put o.dst (.agg xs)) w) : wpList P ops Q (o :: rest) a w :=
  wpList_step fun _ hK => by
    rw [if_pos hgd]
    unfold Oper.wp execOp
    simp only [ho, hx, Instr.loadAt, Instr.sureAddr, Sem.run_bind, Sem.run_pure, Result.andThen_ok, run_load_cells hT xs hc hn]
    exact hK _ _ h
theorem yields_load_cells (hgd : Region.wanted o (yielded ops a.tmps) = true) (ty : TypeId) (x : Operand) (ho : o.op = .load ty x) {n : Nat} (hT : AggT P ty n) (g off : Nat) (hx : a.eval x = .pointer (some ⟨g, off, none⟩)) (xs : Array Value) (hS : ∀ W, S W → ∀ j u, xs.toList[j]? = some u → W.cell? ⟨g, off + j, none⟩ = some u) (hn : xs.size = n) :
    YieldsIf P ops S o (.agg xs) a :=
  .inl ⟨hgd, fun w hw => by
    unfold execOp
    simp only [ho, hx, Instr.loadAt, Instr.sureAddr, Sem.run_bind, Sem.run_pure, Result.andThen_ok, run_load_cells hT xs (hS w hw) hn]⟩
end
/-- Keys that rise from one on to another. -/
inductive Chain : Ky → List PI → Ky → Prop
  | nil (a : Ky) : Chain a [] a
  | snoc {a b : Ky} {L : List PI} {x : PI} : Chain a L b → 0 < kc x.k b → Chain a (L ++ [x]) x.k
def prevK (la : Ky) (L : List PI) (i : Nat) : Ky := match i with | 0 => la | i + 1 => match L[i]? with | some x => x.k | none => la
theorem kc_gt_trans {a b c : Ky} (h1 : 0 < kc a b) (h2 : 0 < kc b c) : 0 < kc a c := by
  have e1 := kc_neg a b
  have e2 := kc_neg b c
  have e3 := kc_neg a c
  have := kc_lt_le (a := c) (b := b) (c := a) (by omega) (by omega)
  omega
theorem prevK_at {a : Ky} {L : List PI} {i : Nat} (h : i < L.length) : prevK a L (i + 1) = (L[i]).k := by
  show (match L[i]? with | some x => x.k | none => a) = _
  rw [List.getElem?_eq_getElem h]
theorem Chain.at {a b : Ky} {L : List PI} (h : Chain a L b) : (∀ i (hi : i < L.length), 0 < kc (L[i]).k (prevK a L i)) ∧ (∀ x ∈ L, 0 < kc x.k a) ∧ b = prevK a L L.length := by
  induction h with
  | nil => exact ⟨fun i hi => by simp at hi, fun x hx => by simp at hx, rfl⟩
  | @snoc b L x hL hx ih =>
    obtain ⟨h1, h2, h3⟩ := ih
    have hp : ∀ i, i ≤ L.length → prevK a (L ++ [x]) i = prevK a L i := fun i hi => by
      cases i with
      | zero => rfl
      | succ i => unfold prevK; simp only; rw [List.getElem?_append_left (by omega)]
    refine ⟨fun i hi => ?_, fun y hy => ?_, ?_⟩
    · rw [List.length_append, List.length_singleton] at hi
      rw [hp i (by omega)]
      by_cases e : i < L.length
      · rw [List.getElem_append_left e]; exact h1 i e
      · have : i = L.length := by omega
        subst this
        rw [List.getElem_append_right (Nat.le_refl _)]
        simp only [Nat.sub_self, List.getElem_cons_zero]
        rw [← h3]
        exact hx
    · rcases List.mem_append.1 hy with hy | hy
      · exact h2 y hy
      · simp only [List.mem_singleton] at hy
        subst hy
        cases hLL : L with
        | nil => subst hLL; rw [h3] at hx; exact hx
        | cons z r =>
          have hl : 0 < L.length := by rw [hLL]; simp
          obtain ⟨k, hk⟩ : ∃ k, L.length = k + 1 := ⟨L.length - 1, by omega⟩
          rw [h3, hk, prevK_at (by omega)] at hx
          exact kc_gt_trans hx (h2 _ (List.getElem_mem _))
    · rw [List.length_append, List.length_singleton]
      unfold prevK
      simp
theorem told_chain {may : SP → Ky → Bool} {S S' : SP} {la la' : Ky} {out : List PI} (h : Told may S la S' la' out) : Chain la out la' := by
  obtain ⟨i, h1, _⟩ := h
  have := itS_ind (may := may) (P := fun s => Chain la s.out s.la) (st := ⟨S, la, []⟩) (Chain.nil la) (fun s s' hs hn => by
    obtain ⟨j, fl, x, r, _, h2, _, rfl⟩ := nextS_some hn
    simp only [takeS]
    by_cases hc : 0 < kc x.k s.la
    · rw [if_pos hc, if_pos hc]; exact .snoc hs hc
    · rw [if_neg hc, if_neg hc]; exact hs) i
  rw [h1] at this
  exact this
/-- What is told at once is above the bound. -/
theorem told_bound {S S' : SP} {la la' : Ky} {out : List PI} (h : Told mayT S la S' la' out) : ∀ x ∈ out, 0 < kc x.k (boundA S la) := by
  intro x hx
  have hc := (told_chain h).at.2.1 x hx
  obtain ⟨i, h1, _⟩ := h
  have hb : boundA S la = la := by
    cases hn : nextS mayT ⟨S, la, []⟩ with
    | none =>
      have := itS_stop (may := mayT) (st := ⟨S, la, []⟩) (i := 0) hn i (Nat.zero_le _)
      rw [h1] at this
      have e : out = [] := congrArg St.out this
      rw [e] at hx
      simp at hx
    | some s =>
      obtain ⟨j, fl, y, r, hf, hj, hm, _⟩ := nextS_some hn
      simp only at hf hj hm
      unfold boundA
      unfold mayT at hm
      cases hl : lowA S with
      | none => rfl
      | some l =>
        rw [hl] at hm
        simp only [decide_eq_true_eq] at hm
        simp only
        rw [hf]
        simp only
        have : hdA S j = y.k := by unfold hdA; rw [hj]; rfl
        rw [this, if_pos (by have := kc_neg l y.k; omega)]
  rw [hb]
  exact hc
/-- What is told ahead of a change is below its floor. -/
theorem told_below {fl : Ky} {S S' : SP} {la la' : Ky} {out : List PI} (h : Told (mayC fl) S la S' la' out) : ∀ x ∈ out, kc x.k fl < 0 := by
  obtain ⟨i, h1, _⟩ := h
  have := itS_ind (may := mayC fl) (P := fun s => ∀ x ∈ s.out, kc x.k fl < 0) (st := ⟨S, la, []⟩) (fun x hx => by simp at hx) (fun s s' hs hn => by
    obtain ⟨j, f, x, r, _, h2, h3, rfl⟩ := nextS_some hn
    simp only [takeS]
    by_cases hc : 0 < kc x.k s.la
    · rw [if_pos hc]
      intro y hy
      rcases List.mem_append.1 hy with hy | hy
      · exact hs y hy
      · simp only [List.mem_singleton] at hy
        subst hy
        unfold mayC at h3
        exact of_decide_eq_true h3
    · rw [if_neg hc]; exact hs) i
  rw [h1] at this
  exact this
theorem told_floor {fl : Ky} {S S' : SP} {la la' : Ky} {out : List PI} (h : Told (mayC fl) S la S' la' out) (h0 : ¬ kc fl la < 0) : ¬ kc fl la' < 0 := by
  have hc := told_chain h
  cases hc with
  | nil => exact h0
  | @snoc b L x _ _ =>
    have := told_below h x (by simp)
    have := kc_neg x.k fl
    omega
theorem and_le511 (z : Int) : ∃ x : Nat, bits .and .i64 z 511 = (x : Int) ∧ x ≤ 511 := by
  have h0 : bits .and .i64 z 511 = IntKind.i64.wrap ((BitVec.ofInt 64 z &&& BitVec.ofInt 64 511).toNat : Int) := rfl
  rw [h0, BitVec.toNat_and]
  have e1 : (BitVec.ofInt 64 511).toNat = 511 := by decide
  rw [e1]
  have h1 : (BitVec.ofInt 64 z).toNat &&& 511 ≤ 511 := Nat.and_le_right
  exact ⟨_, wrap_i64_nat _ (by omega), h1⟩
/-- Streams by their bits, the first one among them. -/
theorem streams_ok (v : Int) : ∃ st : Nat, bits .or .i64 (bits .and .i64 v 511) 1 = (st : Int) ∧ okS (st : Int) = true ∧ st ≤ 511 := by
  obtain ⟨x, hx, hl⟩ := and_le511 v
  rw [hx]
  have tab : (List.range 512).all (fun x => match bits .or .i64 (x : Int) 1 with | .ofNat n => okS (.ofNat n) && decide (n ≤ 511) | _ => false) = true := by kernel_rfl
  have := List.all_eq_true.1 tab x (List.mem_range.2 (by omega))
  cases h : bits .or .i64 (x : Int) 1 with
  | ofNat n =>
    rw [h] at this
    simp only [Bool.and_eq_true, decide_eq_true_eq] at this
    exact ⟨n, rfl, this.1, this.2⟩
  | negSucc n => rw [h] at this; cases this
end Go.Proofs.Ytfkffjjkmckpnaa
