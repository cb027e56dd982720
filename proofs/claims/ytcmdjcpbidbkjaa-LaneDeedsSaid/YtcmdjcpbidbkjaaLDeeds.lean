/-
  DEEDS THAT COME IN (ch 09): each with a datagram whose bytes are seen. Conditions: none; no walk.
-/
import Derived.Test.YtcmdjcpbidbkjaaRows
import Derived.Test.YtcmdjcpbidbkjaaVwB
import Derived.Test.YtcmdjcpbidbkjaaOpenE
import Derived.Lib.SmallJoins
import Derived.SizedLaws
namespace Go.Proofs.Ytcmdjcpbidbkjaa
open Go.RowKit Go.ChangeShapes Go.WideShapes Go.Deep

structure Ld where
  k : Int
  a : Int
  b : Int
  src : Int
  dst : Int
  v : Value
  bs : List Int
def ld0 : Ld := ⟨0, 0, 0, 0, 0, .slice none 0 0, []⟩
instance : Inhabited Ld := ⟨ld0⟩
def Ld.cells (d : Ld) : List Value := [.int .i64 d.k, .int .i64 d.a, .int .i64 d.b, .int .i64 d.src, .int .i64 d.dst, d.v]
structure LI (x : Int) : Prop where
  lo : -9223372036854775808 ≤ x
  hi : x ≤ 9223372036854775807
theorem li_of {n : Int} (h : (Lit.int .i64 n).wf = true) : LI n := ⟨(wf_i64_bd h).1, (wf_i64_bd h).2⟩
structure LdOk (w : World) (d : Ld) : Prop where
  k : LI d.k
  a : LI d.a
  b : LI d.b
  src : LI d.src
  dst : LI d.dst
  vw : Vw .u8 w d.v d.bs
  ab : AllB d.bs
  len : d.bs.length ≤ 140737488351232
def IsLd (w : World) (v : Value) (D : List Ld) : Prop := ∃ ao cap, v = .slice ao D.length cap ∧ D.length ≤ cap ∧ cap ≤ maxLen ∧
  ∀ i, i < D.length → LdOk w (D.getD i ld0) ∧ ∃ b off, ao = some ⟨b, off, none⟩ ∧ b < w.heap.size ∧ ∀ j, j < 6 → w.cell? ⟨b, off + (i * 6 + j), none⟩ = ((D.getD i ld0).cells)[j]?
theorem LdOk.keep {w w' : World} {d : Ld} (h : LdOk w d) (f : Fr (fun _ => False) w w') : LdOk w' d := ⟨h.k, h.a, h.b, h.src, h.dst, h.vw.keep0 f, h.ab, h.len⟩
theorem IsLd.keep {w w' : World} {v : Value} {D : List Ld} (h : IsLd w v D) (f : Fr (fun _ => False) w w') : IsLd w' v D := by
  obtain ⟨ao, cap, rfl, h1, h2, h3⟩ := h
  refine ⟨ao, cap, rfl, h1, h2, fun i hi => ?_⟩
  obtain ⟨q, b, off, rfl, hb, hc⟩ := h3 i hi
  refine ⟨q.keep f, b, off, rfl, Nat.lt_of_lt_of_le hb f.size, fun j hj => ?_⟩
  rw [World.cell?_of_block (f.block b hb (fun h => h))]
  exact hc j hj
theorem IsLd.at {w : World} {ao : Option Addr} {n cap : Nat} {D : List Ld} (h : IsLd w (.slice ao n cap) D) (i : Nat) (hi : i < D.length) :
    LdOk w (D.getD i ld0) ∧ ∃ b off, ao = some ⟨b, off, none⟩ ∧ b < w.heap.size ∧ ∀ j, j < 6 → w.cell? ⟨b, off + (i * 6 + j), none⟩ = ((D.getD i ld0).cells)[j]? := by
  obtain ⟨ao', cap', he, _, _, h3⟩ := h
  injection he with e1 e2 e3
  subst e1
  exact h3 i hi
theorem cellsLd : Try.prog.cellsOf 34 = 6 := by kernel_rfl
theorem bytes_trod {H : Type} {enc : TypeId × Value → H} {w : World} {base fuel : Nat} {held : Bool} {v : Value} {x : DataW H × List MemPlace}
    (h : DataW.trod enc Try.prog w base (fun _ => true) held fuel 28 [v] = some x) (hz : ∀ n ∈ x.1.weights Try.prog 28, n ≤ reachBytes) : ∃ bs, Vw .u8 w v bs ∧ AllB bs ∧ bs.length ≤ 140737488351232 := by
  rcases open_ints Try.underlying28 Try.underlying5 (by kernel_rfl) h with ⟨hcs, _⟩ | ⟨a, len, cap, zs, hcs, _, hl, hm, hzl, rfl, hcell, hwz⟩
  · simp at hcs; subst hcs
    exact ⟨[], Vw.nil _ _, AllB.nil, by simp⟩
  · simp at hcs; subst hcs
    have hz' : zs.length = cap := by simpa using hzl
    have hrow : IsRow .u8 w (some a) len cap zs := .inr ⟨_, rfl, hl, hm, hz', hcell, hwz⟩
    have hb := hz (((lits (H := H) .u8 (zs.take len)).length + (lits (H := H) .u8 (zs.drop len)).length) * Try.prog.bytesOf 5) (by simp [DataW.weights, Try.underlying28])
    rw [show Try.prog.bytesOf 5 = 1 from by kernel_rfl] at hb
    have hlen : (lits (H := H) .u8 (zs.take len)).length = len := by simp [lits]; omega
    refine ⟨zs.take len, Vw.of_is hrow, AllB.of_is hrow, ?_⟩
    have : (zs.take len).length = len := by simp; omega
    rw [this]
    have hr : reachBytes = 140737488351232 := rfl
    omega
theorem wEach_mem {H : Type} {P : Program} {ts : List TypeId} {ds : List (DataW H)} {j : Nat} {t : TypeId} {d : DataW H} (ht : ts[j]? = some t) (hd : ds[j]? = some d) {n : Nat} (hn : n ∈ d.weights P t) : n ∈ DataW.weightsEach P ts ds := DataW.weights_mem_each ht hd n hn
theorem wAll_mem {H : Type} {P : Program} {e : TypeId} : ∀ {ds : List (DataW H)} {d : DataW H}, d ∈ ds → ∀ {n : Nat}, n ∈ d.weights P e → n ∈ DataW.weightsAll P e ds
  | d0 :: ds, d, hd, n, hn => by
    simp only [DataW.weightsAll, List.mem_append]
    rcases List.mem_cons.1 hd with rfl | hd
    · exact .inl hn
    · exact .inr (wAll_mem hd hn)
theorem ld_cells {H : Type} {enc : TypeId × Value → H} {w : World} {base : Nat} {held : Bool} {fuel : Nat} {cs : List Value} {x : DataW H × List MemPlace} (hl : cs.length = 6)
    (h : DataW.trod enc Try.prog w base (fun _ => true) held fuel 34 cs = some x) (hz : ∀ n ∈ x.1.weights Try.prog 34, n ≤ reachBytes) : ∃ d : Ld, cs = d.cells ∧ LdOk w d := by
  obtain ⟨y0, y1, y2, y3, n, rfl, _, t0, t1, t2, t3⟩ := Go.Joins.trod_struct4 Try.underlying34 h
  match cs, hl with
  | [c0, c1, c2, c3, c4, c5], _ =>
    have c1e : Try.prog.cellsOf 3 = 1 := by kernel_rfl
    have c3e : Try.prog.cellsOf 30 = 3 := by kernel_rfl
    have cse : Try.prog.cellsOf 28 = 1 := by kernel_rfl
    rw [c1e] at t0 t1 t2
    rw [c3e] at t3
    simp only [List.drop_zero, List.drop_succ_cons, List.take_succ_cons, List.take_zero] at t0 t1 t2 t3
    obtain ⟨z0, z1, z2, m, hy3, _, s0, s1, s2⟩ := trod_struct3 Try.underlying30 t3
    rw [c1e] at s0 s1
    rw [cse] at s2
    simp only [List.drop_zero, List.drop_succ_cons, List.take_succ_cons, List.take_zero] at s0 s1 s2
    obtain ⟨a, ha, _, wa⟩ := DataW.trod_int Try.underlying3 t0
    obtain ⟨b, hb, _, wb⟩ := DataW.trod_int Try.underlying3 t1
    obtain ⟨c, hc, _, wc⟩ := DataW.trod_int Try.underlying3 t2
    obtain ⟨p, hp, _, wp⟩ := DataW.trod_int Try.underlying3 s0
    obtain ⟨q, hq, _, wq⟩ := DataW.trod_int Try.underlying3 s1
    obtain ⟨bs, h1, h2, h3⟩ := bytes_trod s2 (fun k hk => hz k (by
      have e1 : k ∈ y3.1.weights Try.prog 30 := by
        rw [hy3]
        simp only [DataW.weights, Try.underlying30]
        exact wEach_mem (j := 2) rfl rfl hk
      simp only [DataW.weights, Try.underlying34]
      exact wEach_mem (j := 3) rfl rfl e1))
    refine ⟨⟨a, b, c, p, q, c5, bs⟩, ?_, ⟨li_of wa, li_of wb, li_of wc, li_of wp, li_of wq, h1, h2, h3⟩⟩
    simp at ha hb hc hp hq
    simp [Ld.cells, ha, hb, hc, hp, hq]
theorem ldeeds_open {H : Type} {enc : TypeId × Value → H} {w : World} {r : Reach} {b0 base : Nat} {held : Bool} {v : Value} {d : DataW H} {p : List MemPlace}
    (hok : Value.okWide Try.prog w r b0 22 v) (h : DataW.Trod enc Try.prog w base (fun _ => true) held 22 v d p) (hz : ∀ n ∈ d.weights Try.prog 22, n ≤ reachBytes) : ∃ D, IsLd w v D := by
  obtain ⟨a0, len0, cap0, rfl⟩ := okWide_slice Try.underlying22 hok
  obtain ⟨fuel, hf⟩ := h
  rcases open_slice Try.underlying22 hf with ⟨hcs, _⟩ | ⟨a, len, cap, m, n, DD, Pl, hcs, hb, hl, hm, hmm, hx, hi⟩
  · simp [Value.cells] at hcs
    obtain ⟨rfl, rfl, rfl⟩ := hcs
    exact ⟨[], none, 0, rfl, Nat.le_refl _, by simp [maxLen], fun i hi => by simp at hi⟩
  · simp [Value.cells] at hcs
    obtain ⟨rfl, rfl, rfl⟩ := hcs
    have hml : len0 ≤ m := by rw [hmm]; simpa using hl
    have hd : d = .slice ((List.range len0).map DD) ((List.range (m - len0)).map fun j => DD (len0 + j)) := by injection hx with h1 _
    have hi2 : ∀ i, i < len0 → ∃ k : Ld, LdOk w k ∧ ∃ b off, some a = some ⟨b, off, none⟩ ∧ b < w.heap.size ∧ ∀ j, j < 6 → w.cell? ⟨b, off + (i * 6 + j), none⟩ = (k.cells)[j]? := by
      intro i hlt
      obtain ⟨cs', h1, h2⟩ := hi i (by omega)
      obtain ⟨_, hcl, hat⟩ := World.cells?_some h1
      rw [cellsLd] at hcl
      obtain ⟨k, rfl, hk⟩ := ld_cells hcl h2 (fun z hzz => hz z (by
        rw [hd]
        simp only [DataW.weights, Try.underlying22, List.mem_cons, List.mem_append]
        exact .inr (.inl (wAll_mem (List.mem_map.2 ⟨i, List.mem_range.2 hlt, rfl⟩) hzz))))
      obtain ⟨a', l', c', he', _, _, hE⟩ := open_elems Try.underlying22 (by rw [cellsLd]; decide) hf
      injection he' with e1 e2 e3
      subst e1; subst e2
      obtain ⟨b, off, cs2, hab, hblt, _, _, hcell⟩ := hE i hlt
      injection hab with hab; subst hab
      refine ⟨k, hk, b, off, rfl, hblt, fun j hj => ?_⟩
      rw [cellsLd] at hat
      have h5 := hat j hj
      rw [Go.Deep.add_add, Addr.add_lit] at h5
      exact h5
    obtain ⟨f, hf2⟩ := choose_lt hi2
    refine ⟨(List.range len0).map f, some a, cap0, by simp, by simpa using hl, hm, fun i hlt => ?_⟩
    simp at hlt
    have := hf2 i hlt
    rw [List.getD_eq_getElem?_getD]
    simpa [hlt] using this
end Go.Proofs.Ytcmdjcpbidbkjaa
