/-
  DEEDS THAT COME IN (ch 01), with their bytes, of bounded bulk. Conditions: none; no walk.
-/
import Derived.Test.YtbgcbcbnlfemiaaWDeeds
namespace Go.Proofs.Ytbgcbcbnlfemiaa
open Go.RowKit Go.ChangeShapes Go.WideShapes Go.Deep

theorem bulk_one {H : Type} (d : DataW H) : 1 ≤ Rows.uptoBulk d := by
  cases d with
  | lit l => cases l <;> simp [Rows.uptoBulk]
  | _ => simp [Rows.uptoBulk]
theorem bulk_len {H : Type} (l : List (DataW H)) : l.length ≤ Rows.uptoBulkAll l := by
  induction l with
  | nil => simp [Rows.uptoBulkAll]
  | cons x r ih => have := bulk_one x; simp only [Rows.uptoBulkAll, List.length_cons]; omega
structure Db where
  k : Int
  v : Int
  s : Int
  u : Value
  bs : List Int
def db0 : Db := ⟨0, 0, 0, .slice none 0 0, []⟩
instance : Inhabited Db := ⟨db0⟩
def Db.cells (d : Db) : List Value := [.int .i64 d.k, .int .i64 d.v, .int .i64 d.s, d.u]
structure DbOk (w : World) (d : Db) : Prop where
  k : I64 d.k
  v : I64 d.v
  s : I64 d.s
  vw : Vw .u8 w d.u d.bs
  ab : AllB d.bs
def IsDb (w : World) (v : Value) (D : List Db) : Prop := ∃ ao cap, v = .slice ao D.length cap ∧ D.length ≤ cap ∧ cap ≤ maxLen ∧
  ∀ i, i < D.length → DbOk w (D.getD i db0) ∧ ∃ b off, ao = some ⟨b, off, none⟩ ∧ b < w.heap.size ∧ ∀ j, j < 4 → w.cell? ⟨b, off + (i * 4 + j), none⟩ = ((D.getD i db0).cells)[j]?
theorem DbOk.keep {w w' : World} {d : Db} (h : DbOk w d) (f : Fr (fun _ => False) w w') : DbOk w' d := ⟨h.k, h.v, h.s, h.vw.keep0 f, h.ab⟩
theorem IsDb.keep {w w' : World} {v : Value} {D : List Db} (h : IsDb w v D) (f : Fr (fun _ => False) w w') : IsDb w' v D := by
  obtain ⟨ao, cap, rfl, h1, h2, h3⟩ := h
  refine ⟨ao, cap, rfl, h1, h2, fun i hi => ?_⟩
  obtain ⟨q, b, off, rfl, hb, hc⟩ := h3 i hi
  refine ⟨q.keep f, b, off, rfl, Nat.lt_of_lt_of_le hb f.size, fun j hj => ?_⟩
  rw [World.cell?_of_block (f.block b hb (fun h => h))]
  exact hc j hj
theorem IsDb.at {w : World} {ao : Option Addr} {n cap : Nat} {D : List Db} (h : IsDb w (.slice ao n cap) D) (i : Nat) (hi : i < D.length) :
    DbOk w (D.getD i db0) ∧ ∃ b off, ao = some ⟨b, off, none⟩ ∧ b < w.heap.size ∧ ∀ j, j < 4 → w.cell? ⟨b, off + (i * 4 + j), none⟩ = ((D.getD i db0).cells)[j]? := by
  obtain ⟨ao', cap', he, _, _, h3⟩ := h
  injection he with e1 e2 e3
  subst e1
  exact h3 i hi
/-- What the deeds weigh. -/
def tot : List Db → Nat
  | [] => 0
  | d :: r => d.bs.length + 1 + tot r
theorem tot_len (D : List Db) : D.length ≤ tot D := by
  induction D with
  | nil => simp [tot]
  | cons d r ih => simp only [tot, List.length_cons]; omega
theorem tot_take (D : List Db) (i : Nat) (hi : i < D.length) : tot (D.take (i + 1)) = tot (D.take i) + ((D.getD i db0).bs.length + 1) := by
  induction D generalizing i with
  | nil => simp at hi
  | cons d r ih =>
    cases i with
    | zero => simp [tot]
    | succ i =>
      simp only [List.take_succ_cons, tot]
      have := ih i (by simpa using hi)
      simp only [List.getD_cons_succ]
      omega
theorem tot_take_le (D : List Db) (i : Nat) : tot (D.take i) ≤ tot D := by
  induction D generalizing i with
  | nil => simp [tot]
  | cons d r ih =>
    cases i with
    | zero => simp [tot]
    | succ i => simp only [List.take_succ_cons, tot]; have := ih i; omega
theorem bytes_bulk {H : Type} {enc : TypeId × Value → H} {w : World} {base fuel : Nat} {held : Bool} {v : Value} {x : DataW H × List MemPlace}
    (h : DataW.trod enc Try.prog w base (fun _ => true) held fuel 22 [v] = some x) : ∃ bs, Vw .u8 w v bs ∧ AllB bs ∧ bs.length + 1 ≤ Rows.uptoBulk x.1 := by
  rcases open_ints Try.underlying22 Try.underlying5 (by kernel_rfl) h with ⟨hcs, hx⟩ | ⟨a, len, cap, zs, hcs, _, hl, hm, hzl, rfl, hcell, hwz⟩
  · simp at hcs; subst hcs
    exact ⟨[], Vw.nil _ _, AllB.nil, by have := bulk_one x.1; simpa using this⟩
  · simp at hcs; subst hcs
    have hz' : zs.length = cap := by simpa using hzl
    have hrow : IsRow .u8 w (some a) len cap zs := .inr ⟨_, rfl, hl, hm, hz', hcell, hwz⟩
    refine ⟨zs.take len, Vw.of_is hrow, AllB.of_is hrow, ?_⟩
    have hlen : (zs.take len).length = (lits (H := H) .u8 (zs.take len)).length := by simp [lits]
    have hb := bulk_len (lits (H := H) .u8 (zs.take len))
    simp only [Rows.uptoBulk]
    omega
theorem db_cells {H : Type} {enc : TypeId × Value → H} {w : World} {base : Nat} {held : Bool} {fuel : Nat} {cs : List Value} {x : DataW H × List MemPlace} (hl : cs.length = 4)
    (h : DataW.trod enc Try.prog w base (fun _ => true) held fuel 33 cs = some x) : ∃ d : Db, cs = d.cells ∧ DbOk w d ∧ d.bs.length + 1 ≤ Rows.uptoBulk x.1 := by
  obtain ⟨y0, y1, y2, y3, n, hx, _, t0, t1, t2, t3⟩ := Go.Joins.trod_struct4 Try.underlying33 h
  match cs, hl with
  | [c0, c1, c2, c3], _ =>
    have c1e : Try.prog.cellsOf 3 = 1 := by kernel_rfl
    have cse : Try.prog.cellsOf 22 = 1 := by kernel_rfl
    rw [c1e] at t0 t1 t2
    rw [cse] at t3
    simp only [List.drop_zero, List.drop_succ_cons, List.take_succ_cons, List.take_zero] at t0 t1 t2 t3
    obtain ⟨a, ha, _, wa⟩ := DataW.trod_int Try.underlying3 t0
    obtain ⟨b, hb, _, wb⟩ := DataW.trod_int Try.underlying3 t1
    obtain ⟨c, hc, _, wc⟩ := DataW.trod_int Try.underlying3 t2
    obtain ⟨bs, h1, h2, h3⟩ := bytes_bulk t3
    refine ⟨⟨a, b, c, c3, bs⟩, by simp at ha hb hc; simp [Db.cells, ha, hb, hc], ⟨wf_i64 wa, wf_i64 wb, wf_i64 wc, h1, h2⟩, ?_⟩
    rw [hx]
    simp only [Rows.uptoBulk, Rows.uptoBulkAll]
    omega
theorem tot_bulk {H : Type} {f : Nat → Db} {g : Nat → DataW H} : ∀ (l : List Nat), (∀ i ∈ l, (f i).bs.length + 1 ≤ Rows.uptoBulk (g i)) → tot (l.map f) ≤ Rows.uptoBulkAll (l.map g)
  | [], _ => by simp [tot]
  | i :: r, h => by
    simp only [List.map_cons, tot, Rows.uptoBulkAll]
    have h1 := h i (by simp)
    have h2 := tot_bulk r (fun j hj => h j (by simp [hj]))
    omega
theorem db_open {H : Type} {enc : TypeId × Value → H} {w : World} {r : Reach} {b0 base : Nat} {held : Bool} {v : Value} {d : DataW H} {p : List MemPlace}
    (hok : Value.okWide Try.prog w r b0 23 v) (h : DataW.Trod enc Try.prog w base (fun _ => true) held 23 v d p) (hk : Rows.uptoSmall H [d] = true) : ∃ D, IsDb w v D ∧ tot D ≤ 1048576 := by
  have hb : Rows.uptoBulkAll [d] ≤ 1048576 := of_decide_eq_true hk
  simp only [Rows.uptoBulkAll] at hb
  obtain ⟨a0, len0, cap0, rfl⟩ := okWide_slice Try.underlying23 hok
  obtain ⟨fuel, hf⟩ := h
  rcases open_slice Try.underlying23 hf with ⟨hcs, _⟩ | ⟨a, len, cap, m, n, DD, Pl, hcs, hb0, hl, hm, hmm, hx, hi⟩
  · simp [Value.cells] at hcs
    obtain ⟨rfl, rfl, rfl⟩ := hcs
    exact ⟨[], ⟨none, 0, rfl, Nat.le_refl _, by simp [maxLen], fun i hi => by simp at hi⟩, by simp [tot]⟩
  · simp [Value.cells] at hcs
    obtain ⟨rfl, rfl, rfl⟩ := hcs
    have hml : len0 ≤ m := by rw [hmm]; simpa using hl
    have hd : d = .slice ((List.range len0).map DD) ((List.range (m - len0)).map fun j => DD (len0 + j)) := by injection hx with h1 _
    have hi2 : ∀ i, i < len0 → ∃ k : Db, (DbOk w k ∧ ∃ b off, some a = some ⟨b, off, none⟩ ∧ b < w.heap.size ∧ ∀ j, j < 4 → w.cell? ⟨b, off + (i * 4 + j), none⟩ = (k.cells)[j]?) ∧ k.bs.length + 1 ≤ Rows.uptoBulk (DD i) := by
      intro i hlt
      obtain ⟨cs', h1, h2⟩ := hi i (by omega)
      obtain ⟨_, hcl, hat⟩ := World.cells?_some h1
      rw [cellsDeed] at hcl
      obtain ⟨k, rfl, hk, hkb⟩ := db_cells hcl h2
      obtain ⟨a', l', c', he', _, _, hE⟩ := open_elems Try.underlying23 (by rw [cellsDeed]; decide) hf
      injection he' with e1 e2 e3
      subst e1; subst e2
      obtain ⟨b, off, cs2, hab, hblt, _, _, hcell⟩ := hE i hlt
      injection hab with hab; subst hab
      refine ⟨k, ⟨hk, b, off, rfl, hblt, fun j hj => ?_⟩, hkb⟩
      rw [cellsDeed] at hat
      have h5 := hat j hj
      rw [Go.Deep.add_add, Addr.add_lit] at h5
      exact h5
    obtain ⟨f, hf2⟩ := choose_lt hi2
    refine ⟨(List.range len0).map f, ⟨some a, cap0, by simp, by simpa using hl, hm, fun i hlt => ?_⟩, ?_⟩
    · simp at hlt
      have := (hf2 i hlt).1
      rw [List.getD_eq_getElem?_getD]
      simpa [hlt] using this
    · have h3 := tot_bulk (g := DD) (List.range len0) (fun i hi => (hf2 i (List.mem_range.1 hi)).2)
      rw [hd] at hb
      simp only [Rows.uptoBulk] at hb
      omega
end Go.Proofs.Ytbgcbcbnlfemiaa
