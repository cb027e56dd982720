/-
  STRUCTS AND SLICES THAT COME IN, cell by cell, with their weights, however they are nested. Conditions: none; no program occurs.
-/
import Derived.Test.YtfkffjjkmckpnaaKit
import Derived.Deep.Slices
import Derived.Deep.Fields
import Derived.ChangeSame
import Derived.ChangeSlices
import Derived.OpenShut
import Derived.SizedLaws
namespace Go.Proofs.Ytfkffjjkmckpnaa
open Go.RowKit Go.ChangeShapes Go.WideShapes Go.Deep

/-- The types of a struct's cells. -/
def lvs (P : Program) : Nat → TypeId → List TypeId
  | 0, _ => []
  | n + 1, t => match P.underlying t with
    | some (.struct fs) => fs.toList.flatMap fun f => lvs P n f.type
    | _ => [t]
def lvOffs (P : Program) : Nat → List Field → Bool
  | _, [] => true
  | o, f :: r => f.offset == o && lvOffs P (o + P.cellsOf f.type) r
def lvOk (P : Program) : Nat → TypeId → Bool
  | 0, _ => false
  | n + 1, t => match P.underlying t with
    | some (.struct fs) => lvOffs P 0 fs.toList && fs.toList.all fun f => lvOk P n f.type && P.cellsOf f.type == (lvs P n f.type).length
    | some (.int _) => true
    | some .bool => true
    | some .string => true
    | some (.slice _) => true
    | _ => false
section
variable {H : Type} {enc : TypeId × Value → H} {P : Program} {w : World} {base : Nat} {spare : Nat → Bool} {held : Bool}
theorem lv_fields {n : Nat} {cs : List Value}
    (ih : ∀ (t : TypeId) (fuel : Nat) (ds : List Value) (x : DataW H × List MemPlace), lvOk P n t = true → DataW.trod enc P w base spare held fuel t ds = some x → ∀ (j : Nat) (u : TypeId) (v : Value), (lvs P n t)[j]? = some u → ds[j]? = some v → ∃ m y, DataW.trod enc P w base spare held m u [v] = some y ∧ ∀ k ∈ y.1.weights P u, k ∈ x.1.weights P t) :
    ∀ (fs : List Field) (xs : List (DataW H)) (o : Nat), lvOffs P o fs = true → (fs.all fun f => lvOk P n f.type && P.cellsOf f.type == (lvs P n f.type).length) = true →
      (∀ (i : Nat) (f : Field), fs[i]? = some f → ∃ m y, DataW.trod enc P w base spare held m f.type ((cs.drop f.offset).take (P.cellsOf f.type)) = some y ∧ xs[i]? = some y.1) →
      ∀ (j : Nat) (u : TypeId) (v : Value), (fs.flatMap fun f => lvs P n f.type)[j]? = some u → cs[o + j]? = some v → ∃ m y, DataW.trod enc P w base spare held m u [v] = some y ∧ ∀ k ∈ y.1.weights P u, k ∈ DataW.weightsEach P (fs.map (·.type)) xs := by
  intro fs
  induction fs with
  | nil => intro xs o _ _ _ j u v h; simp at h
  | cons f r ihr =>
    intro xs o ho hall ht j u v hj hv
    simp only [lvOffs, Bool.and_eq_true, beq_iff_eq] at ho
    simp only [List.all_cons, Bool.and_eq_true, beq_iff_eq] at hall
    obtain ⟨ho1, ho2⟩ := ho
    obtain ⟨⟨hl, hc⟩, hall⟩ := hall
    simp only [List.flatMap_cons] at hj
    by_cases hlt : j < (lvs P n f.type).length
    · rw [List.getElem?_append_left hlt] at hj
      obtain ⟨m, y, hy, hx⟩ := ht 0 f rfl
      obtain ⟨m2, y2, h1, h2⟩ := ih f.type m _ y hl hy j u v hj (by
        rw [List.getElem?_take, if_pos (by omega), List.getElem?_drop, ho1]
        exact hv)
      exact ⟨m2, y2, h1, fun k hk => DataW.weights_mem_each (j := 0) (ts := (f :: r).map (·.type)) rfl hx k (h2 k hk)⟩
    · rw [List.getElem?_append_right (by omega)] at hj
      obtain ⟨_, _, _, hx0⟩ := ht 0 f rfl
      cases xs with
      | nil => simp at hx0
      | cons x0 xr =>
        obtain ⟨m2, y2, h1, h2⟩ := ihr xr (o + P.cellsOf f.type) ho2 (by simpa using hall) (fun i g hg => ht (i + 1) g hg) _ u v hj (by
          rw [show o + P.cellsOf f.type + (j - (lvs P n f.type).length) = o + j from by omega]
          exact hv)
        refine ⟨m2, y2, h1, fun k hk => ?_⟩
        show k ∈ DataW.weightsEach P (f.type :: r.map (·.type)) (x0 :: xr)
        unfold DataW.weightsEach
        exact List.mem_append_right _ (h2 k hk)
theorem lv_at : ∀ (n : Nat) (t : TypeId) (fuel : Nat) (ds : List Value) (x : DataW H × List MemPlace), lvOk P n t = true → DataW.trod enc P w base spare held fuel t ds = some x → ∀ (j : Nat) (u : TypeId) (v : Value), (lvs P n t)[j]? = some u → ds[j]? = some v → ∃ m y, DataW.trod enc P w base spare held m u [v] = some y ∧ ∀ k ∈ y.1.weights P u, k ∈ x.1.weights P t := by
  intro n
  induction n with
  | zero => intro t fuel ds x h; simp [lvOk] at h
  | succ n ih =>
    intro t fuel ds x hok h j u v hj hv
    have one : lvs P (n + 1) t = [t] → ds.length = 1 → ∃ m y, DataW.trod enc P w base spare held m u [v] = some y ∧ ∀ k ∈ y.1.weights P u, k ∈ x.1.weights P t := by
      intro e hl
      rw [e] at hj
      match ds, hl with
      | [d], _ =>
        cases j with
        | zero =>
          simp at hj hv
          subst hj; subst hv
          exact ⟨_, _, h, fun k hk => hk⟩
        | succ j => simp at hj
    cases hu : P.underlying t with
    | none => unfold lvOk at hok; rw [hu] at hok; cases hok
    | some d =>
      cases d with
      | struct fs =>
        obtain ⟨xs, m, _, hx, hl, hlen, hf⟩ := DataW.trod_struct hu h
        unfold lvOk at hok
        rw [hu] at hok
        simp only [Bool.and_eq_true] at hok
        unfold lvs at hj
        rw [hu] at hj
        simp only at hj
        have := lv_fields (cs := ds) ih fs.toList (xs.map (·.1)) 0 hok.1 hok.2 (fun i f hi => by
          have hi' : fs[i]? = some f := by simpa using hi
          have hlt : i < xs.length := by
            rw [hlen]
            rcases Nat.lt_or_ge i fs.size with h | h
            · exact h
            · rw [Array.getElem?_eq_none h] at hi'; cases hi'
          have h1 := hf i f hi'
          rw [List.getElem?_eq_getElem hlt] at h1
          exact ⟨m, xs[i], h1, by simp [hlt]⟩) j u v hj (by rw [Nat.zero_add]; exact hv)
        obtain ⟨m2, y, h1, h2⟩ := this
        refine ⟨m2, y, h1, fun k hk => ?_⟩
        rw [hx]
        simp only [DataW.weights, hu]
        exact h2 k hk
      | int k => obtain ⟨a, rfl, _⟩ := DataW.trod_int hu h; exact one (by unfold lvs; rw [hu]) rfl
      | bool => exact one (by unfold lvs; rw [hu]) (by
          cases fuel with
          | zero => simp [DataW.trod] at h
          | succ n =>
            unfold DataW.trod at h
            rw [hu] at h
            split at h <;> simp_all)
      | string => obtain ⟨a, rfl, _⟩ := DataW.trod_string hu h; exact one (by unfold lvs; rw [hu]) rfl
      | slice e =>
        rcases DataW.trod_slice hu h with ⟨rfl, _⟩ | ⟨_, _, _, _, _, _, _, rfl, _⟩
        · exact one (by unfold lvs; rw [hu]) rfl
        · exact one (by unfold lvs; rw [hu]) rfl
      | _ => unfold lvOk at hok; rw [hu] at hok; cases hok
theorem lv_int {n j : Nat} {t u : TypeId} {k : IntKind} {fuel : Nat} {ds : List Value} {x : DataW H × List MemPlace} (hok : lvOk P n t = true) (h : DataW.trod enc P w base spare held fuel t ds = some x) (hj : (lvs P n t)[j]? = some u) (hu : P.underlying u = some (.int k)) (hl : j < ds.length) : ∃ a, ds[j]? = some (.int k a) ∧ (Lit.int k a).wf = true := by
  obtain ⟨m, y, h1, _⟩ := lv_at n t fuel ds x hok h j u _ hj (List.getElem?_eq_getElem hl)
  obtain ⟨a, e, _, hw⟩ := DataW.trod_int hu h1
  simp at e
  exact ⟨a, by rw [List.getElem?_eq_getElem hl, e], hw⟩
theorem lv_bool {n j : Nat} {t u : TypeId} {fuel : Nat} {ds : List Value} {x : DataW H × List MemPlace} (hok : lvOk P n t = true) (h : DataW.trod enc P w base spare held fuel t ds = some x) (hj : (lvs P n t)[j]? = some u) (hu : P.underlying u = some .bool) (hl : j < ds.length) : ∃ a, ds[j]? = some (.bool a) := by
  obtain ⟨m, y, h1, _⟩ := lv_at n t fuel ds x hok h j u _ hj (List.getElem?_eq_getElem hl)
  rw [List.getElem?_eq_getElem hl]
  generalize ds[j] = v at h1
  cases m with
  | zero => simp [DataW.trod] at h1
  | succ m =>
    unfold DataW.trod at h1
    rw [hu] at h1
    split at h1 <;> simp_all
/-- A slice's elements, with their weights. -/
theorem rows_open {t e : TypeId} {fuel : Nat} {v : Value} {x : DataW H × List MemPlace} (ht : P.underlying t = some (.slice e)) (hC : 0 < P.cellsOf e) (h : DataW.trod enc P w base spare held fuel t [v] = some x) (hz : ∀ n ∈ x.1.weights P t, n ≤ reachBytes) :
    ∃ a len cap, v = .slice a len cap ∧ len ≤ cap ∧ cap ≤ maxLen ∧ len * P.bytesOf e ≤ reachBytes ∧ (a = none → len = 0 ∧ cap = 0) ∧ ∀ i, i < len → ∃ b off cs m y, a = some ⟨b, off, none⟩ ∧ b < w.heap.size ∧ cs.length = P.cellsOf e ∧ (∀ j, j < P.cellsOf e → w.cell? ⟨b, off + (i * P.cellsOf e + j), none⟩ = cs[j]?) ∧
      DataW.trod enc P w base spare held m e cs = some y ∧ ∀ n ∈ y.1.weights P e, n ≤ reachBytes := by
  rcases open_slice ht h with ⟨hcs, _⟩ | ⟨a, len, cap, m, n, D, Pl, hcs, hb, hl, hm, hmm, hx, hi⟩
  · simp at hcs; subst hcs
    exact ⟨none, 0, 0, rfl, Nat.le_refl _, by simp [maxLen], by simp, fun _ => ⟨rfl, rfl⟩, fun i hi => by omega⟩
  · simp at hcs; subst hcs
    have hmle : len ≤ m := by rw [hmm]; split <;> omega
    have hd : x.1 = .slice ((List.range len).map D) ((List.range (m - len)).map fun j => D (len + j)) := by rw [hx]
    have hw : x.1.weights P t = (len + (m - len)) * P.bytesOf e :: (DataW.weightsAll P e ((List.range len).map D) ++ DataW.weightsAll P e ((List.range (m - len)).map fun j => D (len + j))) := by
      rw [hd]
      simp only [DataW.weights, ht, List.length_map, List.length_range]
    have all : ∀ (ds : List (DataW H)) (d : DataW H), d ∈ ds → ∀ k ∈ d.weights P e, k ∈ DataW.weightsAll P e ds := by
      intro ds
      induction ds with
      | nil => intro d hd; simp at hd
      | cons d0 r ih =>
        intro d hd k hk
        unfold DataW.weightsAll
        rcases List.mem_cons.1 hd with rfl | hd
        · exact List.mem_append_left _ hk
        · exact List.mem_append_right _ (ih d hd k hk)
    refine ⟨some a, len, cap, rfl, hl, hm, ?_, (fun h => by cases h), fun i hlt => ?_⟩
    · have h1 := hz ((len + (m - len)) * P.bytesOf e) (by rw [hw]; exact List.mem_cons_self)
      have : len * P.bytesOf e ≤ (len + (m - len)) * P.bytesOf e := Nat.mul_le_mul_right _ (by omega)
      omega
    · obtain ⟨cs', hc, ht'⟩ := hi i (by omega)
      obtain ⟨hb', hcl, hat⟩ := World.cells?_some hc
      obtain ⟨b, off, spot⟩ := a
      have hat' : ∀ j, j < P.cellsOf e → w.cell? ((⟨b, off, spot⟩ : Addr).add (i * P.cellsOf e + j)) = cs'[j]? := fun j hj => by
        rw [← Go.Deep.add_add]; exact hat j hj
      have h0 := hat' 0 hC
      rw [List.getElem?_eq_getElem (by omega)] at h0
      have hblk := World.block_lt_of_cell? w _ h0
      have hspot : spot = none := by
        by_cases hi0 : i * P.cellsOf e + 0 = 0
        · have := World.cell?_spot h0
          simpa [Addr.add, hi0] using this
        · obtain ⟨cs0, hc0, _⟩ := hi 0 (by omega)
          obtain ⟨_, hcl0, hat0⟩ := World.cells?_some hc0
          have h00 := hat0 0 hC
          rw [List.getElem?_eq_getElem (by omega)] at h00
          have := World.cell?_spot h00
          simpa [Addr.add] using this
      subst hspot
      have hadd : ∀ k, (⟨b, off, none⟩ : Addr).add k = ⟨b, off + k, none⟩ := fun k => by unfold Addr.add; split <;> simp_all
      rw [hadd] at hblk
      refine ⟨b, off, cs', n, _, rfl, hblk, hcl, fun j hj => by rw [← hadd]; exact hat' j hj, ht', fun k hk => hz k ?_⟩
      rw [hw]
      exact List.mem_cons_of_mem _ (List.mem_append_left _ (all _ _ (List.mem_map.2 ⟨i, List.mem_range.2 hlt, rfl⟩) k hk))
end
end Go.Proofs.Ytfkffjjkmckpnaa
