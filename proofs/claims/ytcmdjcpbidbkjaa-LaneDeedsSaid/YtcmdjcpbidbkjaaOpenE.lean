/-
  SLICES OF ELEMENTS OF SEVERAL CELLS THAT COME IN, opened. Conditions: none; no program occurs.
-/
import Derived.Test.YtcmdjcpbidbkjaaKit
import Derived.Deep.Slices
import Derived.Deep.Fields
import Derived.ChangeSame
import Derived.ChangeSlices
import Derived.OpenShut
namespace Go.Proofs.Ytcmdjcpbidbkjaa
open Go.RowKit Go.ChangeShapes Go.WideShapes Go.Deep
section
variable {H : Type} {enc : TypeId × Value → H} {P : Program} {w : World} {base : Nat} {spare : Nat → Bool} {held : Bool}

theorem open_elems {t e : TypeId} {fuel : Nat} {v : Value} {x : DataW H × List MemPlace} (ht : P.underlying t = some (.slice e)) (hC : 0 < P.cellsOf e) (h : DataW.trod enc P w base spare held fuel t [v] = some x) :
    ∃ a len cap, v = .slice a len cap ∧ len ≤ cap ∧ cap ≤ maxLen ∧ ∀ i, i < len → ∃ b off cs, a = some ⟨b, off, none⟩ ∧ b < w.heap.size ∧ cs.length = P.cellsOf e ∧ (∃ n y, DataW.trod enc P w base spare held n e cs = some y) ∧
      ∀ j, j < P.cellsOf e → w.cell? ⟨b, off + (i * P.cellsOf e + j), none⟩ = cs[j]? := by
  rcases open_slice ht h with ⟨hcs, _⟩ | ⟨a, len, cap, m, n, D, Pl, hcs, hb, hl, hm, hmm, hx, hi⟩
  · simp at hcs; subst hcs
    exact ⟨none, 0, 0, rfl, Nat.le_refl _, by simp [maxLen], fun i hi => by omega⟩
  · simp at hcs; subst hcs
    refine ⟨some a, len, cap, rfl, hl, hm, fun i hlt => ?_⟩
    have hmle : len ≤ m := by rw [hmm]; split <;> omega
    obtain ⟨cs', hc, ht'⟩ := hi i (by omega)
    obtain ⟨hb', hcl, hat⟩ := World.cells?_some hc
    obtain ⟨b, off, spot⟩ := a
    have hat' : ∀ j, j < P.cellsOf e → w.cell? ((⟨b, off, spot⟩ : Addr).add (i * P.cellsOf e + j)) = cs'[j]? := fun j hj => by
      rw [← Go.Deep.add_add]; exact hat j hj
    have h0 := hat' 0 hC
    rw [List.getElem?_eq_getElem (by omega)] at h0
    have hblk := World.block_lt_of_cell? w _ h0
    have hspot : spot = none := by
      by_cases hi0 : i * P.cellsOf e + 0 = 0
      · have := World.cell?_spot h0
        simpa [Addr.add, hi0] using this
      · obtain ⟨cs0, hc0, _⟩ := hi 0 (by omega)
        obtain ⟨_, hcl0, hat0⟩ := World.cells?_some hc0
        have h00 := hat0 0 hC
        rw [List.getElem?_eq_getElem (by omega)] at h00
        have := World.cell?_spot h00
        simpa [Addr.add] using this
    subst hspot
    have hadd : ∀ k, (⟨b, off, none⟩ : Addr).add k = ⟨b, off + k, none⟩ := fun k => by unfold Addr.add; split <;> simp_all
    rw [hadd] at hblk
    exact ⟨b, off, cs', rfl, hblk, hcl, ⟨n, _, ht'⟩, fun j hj => by rw [← hadd]; exact hat' j hj⟩
end
end Go.Proofs.Ytcmdjcpbidbkjaa
