/-
  STRUCTS AND ARRAYS THAT COME IN, cell by cell, however they are nested. Conditions: none; no program occurs.
-/
import Derived.Test.YtalbncnhmofgaaaKit
import Derived.Deep.Slices
import Derived.Deep.Fields
import Derived.ChangeSame
import Derived.ChangeSlices
import Derived.OpenShut
namespace Go.Proofs.Ytalbncnhmofgaaa
open Go.RowKit Go.ChangeShapes Go.WideShapes Go.Deep

/-- The types of a type's cells. -/
def leaves (P : Program) : Nat → TypeId → List TypeId
  | 0, _ => []
  | n + 1, t => match P.underlying t with
    | some (.struct fs) => fs.toList.flatMap fun f => leaves P n f.type
    | some (.array len e) => (List.replicate len (leaves P n e)).flatten
    | _ => [t]
def offsOk (P : Program) : Nat → List Field → Bool
  | _, [] => true
  | o, f :: r => f.offset == o && offsOk P (o + P.cellsOf f.type) r
def leafOk (P : Program) : Nat → TypeId → Bool
  | 0, _ => false
  | n + 1, t => match P.underlying t with
    | some (.struct fs) => offsOk P 0 fs.toList && fs.toList.all fun f => leafOk P n f.type && P.cellsOf f.type == (leaves P n f.type).length
    | some (.array _ e) => leafOk P n e && P.cellsOf e == (leaves P n e).length
    | some (.int _) => true
    | some .bool => true
    | some .string => true
    | some (.slice _) => true
    | _ => false

section
variable {H : Type} {enc : TypeId × Value → H} {P : Program} {w : World} {base : Nat} {spare : Nat → Bool} {held : Bool}

theorem flat_fields {n : Nat} {cs : List Value}
    (ih : ∀ (t : TypeId) (fuel : Nat) (ds : List Value) (x : DataW H × List MemPlace), leafOk P n t = true → DataW.trod enc P w base spare held fuel t ds = some x → ∀ (j : Nat) (u : TypeId) (v : Value), (leaves P n t)[j]? = some u → ds[j]? = some v → ∃ m y, DataW.trod enc P w base spare held m u [v] = some y) :
    ∀ (fs : List Field) (o : Nat), offsOk P o fs = true → (fs.all fun f => leafOk P n f.type && P.cellsOf f.type == (leaves P n f.type).length) = true →
      (∀ f ∈ fs, ∃ m y, DataW.trod enc P w base spare held m f.type ((cs.drop f.offset).take (P.cellsOf f.type)) = some y) →
      ∀ (j : Nat) (u : TypeId) (v : Value), (fs.flatMap fun f => leaves P n f.type)[j]? = some u → cs[o + j]? = some v → ∃ m y, DataW.trod enc P w base spare held m u [v] = some y := by
  intro fs
  induction fs with
  | nil => intro o _ _ _ j u v h; simp at h
  | cons f r ihr =>
    intro o ho hall ht j u v hj hv
    simp only [offsOk, Bool.and_eq_true, beq_iff_eq] at ho
    simp only [List.all_cons, Bool.and_eq_true, beq_iff_eq] at hall
    obtain ⟨ho1, ho2⟩ := ho
    obtain ⟨⟨hl, hc⟩, hall⟩ := hall
    simp only [List.flatMap_cons] at hj
    by_cases hlt : j < (leaves P n f.type).length
    · rw [List.getElem?_append_left hlt] at hj
      obtain ⟨m, y, hy⟩ := ht f (by simp)
      refine ih f.type m _ y hl hy j u v hj ?_
      rw [List.getElem?_take, if_pos (by omega), List.getElem?_drop, ho1]
      exact hv
    · rw [List.getElem?_append_right (by omega)] at hj
      refine ihr (o + P.cellsOf f.type) ho2 (by simpa using hall) (fun g hg => ht g (by simp [hg])) _ u v hj ?_
      rw [show o + P.cellsOf f.type + (j - (leaves P n f.type).length) = o + j from by omega]
      exact hv

theorem flat_rows {len c : Nat} {ls : List TypeId} {cs : List Value} (hc : c = ls.length)
    (h : ∀ i, i < len → ∀ (j : Nat) (u : TypeId) (v : Value), ls[j]? = some u → ((cs.drop (i * c)).take c)[j]? = some v → ∃ m y, DataW.trod enc P w base spare held m u [v] = some y) :
    ∀ (j : Nat) (u : TypeId) (v : Value), ((List.replicate len ls).flatten)[j]? = some u → cs[j]? = some v → ∃ m y, DataW.trod enc P w base spare held m u [v] = some y := by
  have key : ∀ (k : Nat) (i : Nat), i + k = len → ∀ (j : Nat) (u : TypeId) (v : Value), ((List.replicate k ls).flatten)[j]? = some u → cs[i * c + j]? = some v → ∃ m y, DataW.trod enc P w base spare held m u [v] = some y := by
    intro k
    induction k with
    | zero => intro i _ j u v hj; simp at hj
    | succ k ihk =>
      intro i hi j u v hj hv
      rw [List.replicate_succ, List.flatten_cons] at hj
      by_cases hlt : j < ls.length
      · rw [List.getElem?_append_left hlt] at hj
        refine h i (by omega) j u v hj ?_
        rw [List.getElem?_take, if_pos (by omega), List.getElem?_drop]; exact hv
      · rw [List.getElem?_append_right (by omega)] at hj
        refine ihk (i + 1) (by omega) _ u v hj ?_
        rw [show (i + 1) * c + (j - ls.length) = i * c + j from by rw [Nat.add_mul]; omega]
        exact hv
  intro j u v hj hv
  exact key len 0 (by omega) j u v hj (by simpa using hv)

/-- Each cell reads as its own type does. -/
theorem flat_at : ∀ (n : Nat) (t : TypeId) (fuel : Nat) (cs : List Value) (x : DataW H × List MemPlace), leafOk P n t = true → DataW.trod enc P w base spare held fuel t cs = some x →
    ∀ (j : Nat) (u : TypeId) (v : Value), (leaves P n t)[j]? = some u → cs[j]? = some v → ∃ m y, DataW.trod enc P w base spare held m u [v] = some y := by
  intro n
  induction n with
  | zero => intro t fuel cs x h; simp [leafOk] at h
  | succ n ih =>
    intro t fuel cs x hok h j u v hj hv
    unfold leafOk at hok
    unfold leaves at hj
    cases hu : P.underlying t with
    | none => rw [hu] at hok; simp at hok
    | some d =>
      rw [hu] at hok hj
      cases d with
      | struct fs =>
        simp only [Bool.and_eq_true] at hok hj
        obtain ⟨xs, m, _, _, _, hlen, hf⟩ := DataW.trod_struct hu h
        refine flat_fields ih fs.toList 0 hok.1 (by simpa using hok.2) ?_ j u v hj (by simpa using hv)
        intro f hmem
        obtain ⟨i, hi, he⟩ := List.mem_iff_getElem.1 hmem
        have hi' : i < fs.size := by simpa using hi
        have hfi : fs[i]? = some f := by rw [Array.getElem?_eq_getElem hi']; simpa using he
        have := hf i f hfi
        rw [List.getElem?_eq_getElem (by omega)] at this
        exact ⟨m, _, this⟩
      | array len e =>
        simp only [Bool.and_eq_true, beq_iff_eq] at hok hj
        obtain ⟨xs, m, _, _, _, hlen, hf⟩ := DataW.trod_array hu h
        refine flat_rows hok.2 ?_ j u v hj hv
        intro i hi j' u' v' hj' hv'
        have := hf i hi
        rw [List.getElem?_eq_getElem (by omega)] at this
        exact ih e m _ _ hok.1 this j' u' v' hj' hv'
      | int k =>
        simp only [] at hj
        obtain ⟨z, rfl, _⟩ := DataW.trod_int hu h
        match j, hj, hv with
        | 0, hj, hv => simp at hj hv; subst hj; subst hv; exact ⟨fuel, x, h⟩
        | j + 1, hj, _ => simp at hj
      | bool =>
        simp only [] at hj
        obtain ⟨z, rfl, _⟩ := DataW.trod_bool hu h
        match j, hj, hv with
        | 0, hj, hv => simp at hj hv; subst hj; subst hv; exact ⟨fuel, x, h⟩
        | j + 1, hj, _ => simp at hj
      | string =>
        simp only [] at hj
        obtain ⟨z, rfl, _⟩ := DataW.trod_string hu h
        match j, hj, hv with
        | 0, hj, hv => simp at hj hv; subst hj; subst hv; exact ⟨fuel, x, h⟩
        | j + 1, hj, _ => simp at hj
      | slice e =>
        simp only [] at hj
        rcases open_slice hu h with ⟨rfl, _⟩ | ⟨a, l, c, _, _, _, _, rfl, _⟩ <;>
        · match j, hj, hv with
          | 0, hj, hv => simp at hj hv; subst hj; subst hv; exact ⟨fuel, x, h⟩
          | j + 1, hj, _ => simp at hj
      | _ => simp at hok

/-- All cells are integers of one kind. -/
theorem flat_ints {n : Nat} {t : TypeId} {fuel : Nat} {cs : List Value} {x : DataW H × List MemPlace} {k : IntKind} (hok : leafOk P n t = true) (hall : ∀ u ∈ leaves P n t, P.underlying u = some (.int k)) (hlen : cs.length = (leaves P n t).length)
    (h : DataW.trod enc P w base spare held fuel t cs = some x) : ∃ zs : List Int, cs = zs.map (Value.int k) ∧ ∀ z ∈ zs, (Lit.int k z).wf = true := by
  have hat := flat_at n t fuel cs x hok h
  have : ∀ (l : List Value), (∀ v ∈ l, ∃ z, v = .int k z ∧ (Lit.int k z).wf = true) → ∃ zs : List Int, l = zs.map (Value.int k) ∧ ∀ z ∈ zs, (Lit.int k z).wf = true := by
    intro l
    induction l with
    | nil => intro _; exact ⟨[], rfl, by simp⟩
    | cons v r ih =>
      intro hv
      obtain ⟨z, rfl, hz⟩ := hv v (by simp)
      obtain ⟨zs, rfl, hzs⟩ := ih (fun u hu => hv u (by simp [hu]))
      refine ⟨z :: zs, rfl, ?_⟩
      intro y hy
      rcases List.mem_cons.1 hy with rfl | hy
      · exact hz
      · exact hzs y hy
  refine this cs fun v hv => ?_
  obtain ⟨j, hj, he⟩ := List.mem_iff_getElem.1 hv
  have hl : j < (leaves P n t).length := by omega
  obtain ⟨m, y, hy⟩ := hat j _ v (List.getElem?_eq_getElem hl) (by rw [List.getElem?_eq_getElem hj, he])
  obtain ⟨z, hz, _, hw⟩ := DataW.trod_int (hall _ (List.getElem_mem hl)) hy
  exact ⟨z, by simpa using hz, hw⟩

/-- A slice, element by element, cell by cell. -/
theorem open_elems {t e : TypeId} {fuel : Nat} {v : Value} {x : DataW H × List MemPlace} (ht : P.underlying t = some (.slice e)) (hC : 0 < P.cellsOf e) (h : DataW.trod enc P w base spare held fuel t [v] = some x) :
    ∃ a len cap, v = .slice a len cap ∧ len ≤ cap ∧ cap ≤ maxLen ∧ ∀ i, i < len → ∃ b off cs, a = some ⟨b, off, none⟩ ∧ b < w.heap.size ∧ cs.length = P.cellsOf e ∧ (∃ n y, DataW.trod enc P w base spare held n e cs = some y) ∧
      ∀ j, j < P.cellsOf e → w.cell? ⟨b, off + (i * P.cellsOf e + j), none⟩ = cs[j]? := by
  rcases open_slice ht h with ⟨hcs, _⟩ | ⟨a, len, cap, m, n, D, Pl, hcs, hb, hl, hm, hmm, hx, hi⟩
  · simp at hcs; subst hcs
    exact ⟨none, 0, 0, rfl, Nat.le_refl _, by simp [maxLen], fun i hi => by omega⟩
  · simp at hcs; subst hcs
    refine ⟨some a, len, cap, rfl, hl, hm, fun i hlt => ?_⟩
    have hmle : len ≤ m := by rw [hmm]; split <;> omega
    obtain ⟨cs', hc, ht'⟩ := hi i (by omega)
    obtain ⟨hb', hcl, hat⟩ := World.cells?_some hc
    obtain ⟨b, off, spot⟩ := a
    have hat' : ∀ j, j < P.cellsOf e → w.cell? ((⟨b, off, spot⟩ : Addr).add (i * P.cellsOf e + j)) = cs'[j]? := fun j hj => by
      rw [← Go.Deep.add_add]; exact hat j hj
    have h0 := hat' 0 hC
    rw [List.getElem?_eq_getElem (by omega)] at h0
    have hblk := World.block_lt_of_cell? w _ h0
    have hspot : spot = none := by
      by_cases hi0 : i * P.cellsOf e + 0 = 0
      · have := World.cell?_spot h0
        simpa [Addr.add, hi0] using this
      · obtain ⟨cs0, hc0, _⟩ := hi 0 (by omega)
        obtain ⟨_, hcl0, hat0⟩ := World.cells?_some hc0
        have h00 := hat0 0 hC
        rw [List.getElem?_eq_getElem (by omega)] at h00
        have := World.cell?_spot h00
        simpa [Addr.add] using this
    subst hspot
    have hadd : ∀ k, (⟨b, off, none⟩ : Addr).add k = ⟨b, off + k, none⟩ := fun k => by unfold Addr.add; split <;> simp_all
    rw [hadd] at hblk
    exact ⟨b, off, cs', rfl, hblk, hcl, ⟨n, _, ht'⟩, fun j hj => by rw [← hadd]; exact hat' j hj⟩
end
end Go.Proofs.Ytalbncnhmofgaaa
