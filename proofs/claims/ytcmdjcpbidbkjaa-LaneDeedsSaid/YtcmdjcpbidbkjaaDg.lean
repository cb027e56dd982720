/-
  DATAGRAMS IN MEMORY: a row of them whose bytes are rows of their own. Conditions: none; no walk.
-/
import Derived.Test.YtcmdjcpbidbkjaaVwB
import Derived.Test.YtcmdjcpbidbkjaaRow
namespace Go.Proofs.Ytcmdjcpbidbkjaa
open Go.RowKit

structure Dg where
  src : Int
  dst : Int
  v : Value
  bs : List Int
def Dg.cells (d : Dg) : List Value := [.int .i64 d.src, .int .i64 d.dst, d.v]
def flat (ds : List Dg) : List Value := ds.flatMap Dg.cells
def Dg.pl (d : Dg) : Int × Int × List Int := (d.src, d.dst, d.bs)
theorem flat_len (ds : List Dg) : (flat ds).length = ds.length * 3 := by
  induction ds with
  | nil => rfl
  | cons d r ih => simp only [flat, List.flatMap_cons, List.length_append, List.length_cons] at ih ⊢; rw [ih]; simp [Dg.cells]; omega
theorem flat_append (a b : List Dg) : flat (a ++ b) = flat a ++ flat b := by simp [flat]
theorem flat_take (ds : List Dg) (i : Nat) : (flat ds).take (i * 3) = flat (ds.take i) := by
  induction ds generalizing i with
  | nil => simp [flat]
  | cons d r ih =>
    cases i with
    | zero => simp [flat]
    | succ i =>
      have := ih i
      simp only [flat, List.take_succ_cons, List.flatMap_cons] at this ⊢
      rw [show (i + 1) * 3 = i * 3 + 3 by omega]
      simp only [Dg.cells, List.cons_append, List.nil_append, List.take_succ_cons, this]
theorem flat_drop (ds : List Dg) (i : Nat) : (flat ds).drop (i * 3) = flat (ds.drop i) := by
  induction ds generalizing i with
  | nil => simp [flat]
  | cons d r ih =>
    cases i with
    | zero => simp [flat]
    | succ i =>
      have := ih i
      simp only [flat, List.drop_succ_cons, List.flatMap_cons] at this ⊢
      rw [show (i + 1) * 3 = i * 3 + 3 by omega]
      simp only [Dg.cells, List.cons_append, List.nil_append, List.drop_succ_cons, this]
theorem flat_at {ds : List Dg} {i : Nat} {d : Dg} (h : ds[i]? = some d) : (flat ds)[i * 3]? = some (.int .i64 d.src) ∧ (flat ds)[i * 3 + 1]? = some (.int .i64 d.dst) ∧ (flat ds)[i * 3 + 2]? = some d.v := by
  induction ds generalizing i with
  | nil => simp at h
  | cons x r ih =>
    cases i with
    | zero => simp at h; subst h; simp [flat, Dg.cells]
    | succ i =>
      have := ih (i := i) (by simpa using h)
      simp only [flat, List.flatMap_cons, Dg.cells, List.cons_append, List.nil_append] at this ⊢
      rw [show (i + 1) * 3 = i * 3 + 3 by omega]
      exact this
theorem flat_one (ds : List Dg) (h : ∀ d ∈ ds, d.v.oneCell' = true) : ∀ u ∈ flat ds, u.oneCell' = true := by
  intro u hu
  simp only [flat, List.mem_flatMap, Dg.cells, List.mem_cons, List.not_mem_nil, or_false] at hu
  obtain ⟨d, hd, hu⟩ := hu
  rcases hu with rfl | rfl | rfl
  · rfl
  · rfl
  · exact h d hd

structure DgIs (w : World) (d : Dg) : Prop where
  row : w.ownsRow 0 5 1 d.v d.bs.length (d.bs.map (.int .u8))
  ab : AllB d.bs
  len : d.bs.length ≤ 140737488355328
theorem DgIs.keep {S : Nat → Prop} {w w' : World} {d : Dg} (h : DgIs w d) (f : Fr S w w') (hn : ∀ k, k ∈ footOf d.v → ¬ S k) : DgIs w' d := ⟨row_keep h.row f hn, h.ab, h.len⟩
theorem DgIs.one {w : World} {d : Dg} (h : DgIs w d) : d.v.oneCell' = true := by
  rcases h.row.2 with ⟨h, _⟩ | ⟨g, cap, cur, h, _⟩ <;> rw [h] <;> rfl
theorem DgIs.live {w : World} {d : Dg} (h : DgIs w d) : Live w (footOf d.v) := row_live h.row

/-- A row of datagrams. -/
structure DR (w : World) (v : Value) (ds : List Dg) : Prop where
  row : w.ownsRow 0 30 3 v ds.length (flat ds)
  dg : ∀ d ∈ ds, DgIs w d
  sep : ds.Pairwise (fun a b => Disj (footOf a.v) (footOf b.v))
def feet (v : Value) (ds : List Dg) : List Nat := footOf v ++ ds.flatMap fun d => footOf d.v
theorem mem_feet {v : Value} {ds : List Dg} {k : Nat} : k ∈ feet v ds ↔ k ∈ footOf v ∨ ∃ d ∈ ds, k ∈ footOf d.v := by simp [feet]
theorem DR.keep {S : Nat → Prop} {w w' : World} {v : Value} {ds : List Dg} (h : DR w v ds) (f : Fr S w w') (hn : ∀ k, k ∈ feet v ds → ¬ S k) : DR w' v ds :=
  ⟨row_keep h.row f (fun k hk => hn k (mem_feet.2 (.inl hk))), fun d hd => (h.dg d hd).keep f (fun k hk => hn k (mem_feet.2 (.inr ⟨d, hd, hk⟩))), h.sep⟩
theorem DR.live {w : World} {v : Value} {ds : List Dg} (h : DR w v ds) : Live w (feet v ds) := fun k hk => by
  rcases mem_feet.1 hk with h1 | ⟨d, hd, h1⟩
  · exact row_live h.row k h1
  · exact (h.dg d hd).live k h1
/-- A row's block is none of its elements' bytes' blocks. -/
theorem DR.apart {w : World} {v : Value} {ds : List Dg} (h : DR w v ds) {d : Dg} (hd : d ∈ ds) : Disj (footOf v) (footOf d.v) := fun k h1 h2 => by
  obtain ⟨cs, b1⟩ := row_type h.row h1
  obtain ⟨cs', b2⟩ := row_type (h.dg d hd).row h2
  exact absurd (b1.type b2) (by decide)
theorem DR.apart' {w : World} {v : Value} {ds : List Dg} (h : DR w v ds) {d : Dg} (hd : DgIs w d) : Disj (footOf v) (footOf d.v) := fun k h1 h2 => by
  obtain ⟨cs, b1⟩ := row_type h.row h1
  obtain ⟨cs', b2⟩ := row_type hd.row h2
  exact absurd (b1.type b2) (by decide)
/-- A block of another type is none of theirs. -/
theorem DR.not_foot {w : World} {v : Value} {ds : List Dg} (h : DR w v ds) {b : Nat} {cs : Array Value} {t : TypeId} (hb : Blk w b cs t) (h1 : t ≠ 30) (h2 : t ≠ 5) : b ∉ feet v ds := fun hk => by
  rcases mem_feet.1 hk with q | ⟨d, hd, q⟩
  · obtain ⟨cs, b1⟩ := row_type h.row q
    exact h1 (hb.type b1)
  · obtain ⟨cs, b1⟩ := row_type (h.dg d hd).row q
    exact h2 (hb.type b1)
theorem DR.nil (w : World) : DR w (.slice none 0 0) [] := ⟨World.ownsRow_nil _ _ _ _, fun _ h => (by cases h), List.Pairwise.nil⟩
/-- One more, whose bytes are apart. -/
theorem DR.push {w w' : World} {v v' : Value} {ds : List Dg} {d : Dg} (h : DR w v ds) (hd : DgIs w d) (hdis : ∀ a ∈ ds, Disj (footOf a.v) (footOf d.v))
    (hr : w'.ownsRow 0 30 3 v' (ds.length + 1) (flat ds ++ d.cells)) (f : Fr (· ∈ footOf v) w w') : DR w' v' (ds ++ [d]) := by
  refine ⟨by rw [flat_append]; simpa [flat] using hr, fun x hx => ?_, ?_⟩
  · rcases List.mem_append.1 hx with hx | hx
    · exact (h.dg x hx).keep f (fun k hk hk' => h.apart hx k hk' hk)
    · simp at hx; subst hx; exact hd.keep f (fun k hk hk' => h.apart' hd k hk' hk)
  · rw [List.pairwise_append]
    refine ⟨h.sep, List.pairwise_singleton _ _, fun a ha b hb => ?_⟩
    simp at hb; subst hb; exact hdis a ha
theorem DR.at {w : World} {g n cap : Nat} {ds : List Dg} (h : DR w (.slice (some ⟨g, 0, none⟩) n cap) ds) (hn : n = ds.length) {i : Nat} {d : Dg} (hi : ds[i]? = some d) :
    w.cell? ⟨g, i * 3, none⟩ = some (.int .i64 d.src) ∧ w.cell? ⟨g, i * 3 + 1, none⟩ = some (.int .i64 d.dst) ∧ w.cell? ⟨g, i * 3 + 2, none⟩ = some d.v := by
  subst hn
  obtain ⟨h1, h2, h3⟩ := flat_at hi
  exact ⟨rowN_cell h.row _ _ h1, rowN_cell h.row _ _ h2, rowN_cell h.row _ _ h3⟩
end Go.Proofs.Ytcmdjcpbidbkjaa
