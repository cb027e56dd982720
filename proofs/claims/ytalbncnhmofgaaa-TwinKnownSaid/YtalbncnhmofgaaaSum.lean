/-
  WHAT table AND Of OF sum COMPUTE. Conditions: none.
-/
import Derived.Test.YtalbncnhmofgaaaRows
import Derived.Test.YtalbncnhmofgaaaKit
import Derived.Test.YtalbncnhmofgaaaCrc
import Derived.LoopTactic
import Derived.Laws.Rows
import Derived.Laws.Tables
import Derived.Laws.BitsAllLaws
import Derived.WalkLawsBesides
import Derived.WalkSpells
import Derived.Outline
namespace Go.Proofs.Ytalbncnhmofgaaa
open Go.RowKit

/-- A new variable of many cells, none of them written out. -/
theorem wpList_alloc_row {P : Program} {ops : Array Oper} {rest : List Oper} {o : Oper} {a : Act} {w : World} {Q : Exit → Act → World → Prop} (hgd : o.guard = none) (t : TypeId) (ho : o.op = .alloc t)
    (i : TypeInfo) (Z : Array Value) (hi : P.info? t = some i) (hz : i.zero = some (.agg Z))
    (h : wpList P ops Q rest (a.put o.dst (.pointer (some ⟨w.heap.size, 0, none⟩))) (w.alloc (.cells Z t))) : wpList P ops Q (o :: rest) a w :=
  wpList_plain hgd fun _ hK => by
    unfold Oper.wp execOp
    simp only [ho]
    simp [Instr.alloc, zeroValue, typeInfo, hi, hz, newVar, newRow, Value.cells]
    exact hK _ _ h

theorem Fr.setRow {S : Nat → Prop} {a w : World} (h : Fr S a w) {g : Nat} (hg : a.heap.size ≤ g ∨ S g) (cs : Array Value) : Fr S a (w.setRow g cs) :=
  ⟨h.os, h.tape, h.output, by simpa using h.size, fun k hk hn => by
    rw [setRow_other w g k cs (fun e => by
      rcases hg with hg | hg
      · omega
      · exact hn (e ▸ hg))]
    exact h.block k hk hn⟩

theorem infoTab : (Try.prog.info? 125).map (fun i => (i.zero, i.size)) = some (some (.agg (Array.replicate 256 (.int .u32 0))), 256) := by kernel_rfl
def tabV : Array Value := ((List.range 256).map fun j => Value.int .u32 (f8 j)).toArray
theorem tabV_size : tabV.size = 256 := by simp [tabV]
theorem tabV_at {j : Nat} (h : j < 256) : tabV[j]? = some (.int .u32 (f8 j)) := by simp [tabV, h]
theorem tabV_ext {cs : Array Value} (hs : cs.size = 256) (h : ∀ j, j < 256 → cs[j]? = some (.int .u32 (f8 j))) : cs = tabV := by
  apply Array.ext_getElem?
  intro j
  by_cases hj : j < 256
  · rw [h j hj, tabV_at hj]
  · rw [Array.getElem?_eq_none (by omega), Array.getElem?_eq_none (by rw [tabV_size]; omega)]
theorem tabV_one : ∀ u ∈ tabV, u.oneCell' = true := by
  intro u hu
  simp [tabV] at hu
  obtain ⟨j, _, rfl⟩ := hu; rfl

theorem fn_succ (k : Nat) : ∀ x, fn (k + 1) x = f1 (fn k x) := by
  induction k with
  | zero => intro x; rfl
  | succ k ih => intro x; rw [show fn (k + 1 + 1) x = fn (k + 1) (f1 x) from rfl, ih, show fn (k + 1) x = fn k (f1 x) from rfl]

set_option maxRecDepth 100000 in
set_option maxHeartbeats 1000000 in
theorem table_any (w : World) : Calls Try.prog 75 #[] w fun e w' => e = .returned (.agg tabV) ∧ Fr (fun _ => False) w w' := by
  obtain ⟨i0, hi, hz⟩ : ∃ i, Try.prog.info? 125 = some i ∧ (i.zero = some (.agg (Array.replicate 256 (.int .u32 0))) ∧ i.size = 256) := by
    have := infoTab
    cases h : Try.prog.info? 125 with
    | none => rw [h] at this; simp at this
    | some i => rw [h] at this; simp at this; exact ⟨i, rfl, by simpa using this.1, this.2⟩
  obtain ⟨hz, hsz⟩ := hz
  obtain ⟨Z, hZ⟩ : ∃ Z : Array Value, Z = Array.replicate 256 (.int .u32 0) := ⟨_, rfl⟩
  rw [← hZ] at hz
  have hZs : Z.size = 256 := by rw [hZ]; simp
  have HZ := hid hZ
  clear hZ
  have H1 := hid hZs
  have H2 := hid hsz
  have H3 := hid hi
  have H4 := hid hz
  clear hZs hsz hi hz
  go_enter Try.func75, Try.ntmps75
  go_wp2_with (refine wpList_alloc_row rfl 125 rfl i0 Z H3.out H4.out ?_)
  have ⟨B1, B2, HF⟩ := blk2 w Z Z 125 125
  generalize hp : w.heap.size + 1 = q at *
  have hq : w.heap.size < q := by omega
  clear hp
  go_loopw [5] (fun i wr => ∃ k : Nat, ∃ cs : Array Value, k ≤ 256 ∧ i = .int .i64 k ∧ Blk wr q cs 125 ∧ cs.size = 256 ∧ (∀ j, j < k → cs[j]? = some (.int .u32 (f8 j))) ∧ Blk wr w.heap.size Z 125 ∧ Fr (fun _ => False) w wr)
    (fun i _ => 256 - (intOf i).toNat)
  case atStart => exact ⟨0, Z, by omega, rfl, B2, H1.out, fun j hj => by omega, B1, HF⟩
  case round =>
    obtain ⟨k, cs, hk, rfl, B2, hsize, hall, B1, HF⟩ := hrel
    have HS := hid hsize
    have HA := hid hall
    clear hsize hall
    by_cases hlt : k < 256
    · obtain ⟨old, hold⟩ : ∃ v, cs[k]? = some v := ⟨_, Array.getElem?_eq_getElem (by rw [HS.out]; exact hlt)⟩
      have k0 := B2.cell k hold
      have kf := B2.free k
      clear hold
      go_wp2_with fail
      go_loop [3, 10] (fun x i => ∃ m : Nat, m ≤ 8 ∧ i = .int .i64 m ∧ x = .int .u32 (fn m k)) (fun _ i => 8 - (intOf i).toNat)
      case atStart => exact ⟨0, by omega, rfl, rfl⟩
      case round =>
        obtain ⟨m, hm, rfl, rfl⟩ := hrel
        have hX := fn_lt m (x := k) (Nat.lt_trans hlt (by decide))
        have HSu := hid (fn_succ m k)
        generalize hXX : fn m k = X at *
        have HXX := hid hXX
        clear hXX
        have HX := hid hX
        have e1 : bits .and .u32 (X : Int) 1 = ((X % 2 : Nat) : Int) := by
          have := u32_and_nat X 1 (by have := HX.out; omega) (by decide)
          rw [show ((1 : Nat) : Int) = 1 from rfl] at this
          rw [this, nat_mask1]
        clear hX
        by_cases hm8 : m < 8
        · by_cases hodd : X % 2 = 1
          · have e2 : bits .xor .u32 ((X : Int) / 2) 3988292384 = ((f1 X : Nat) : Int) := by
              have := u32_xor_nat (X / 2) 3988292384 (by have := HX.out; omega) (by decide)
              rw [show ((X / 2 : Nat) : Int) = (X : Int) / 2 from by omega, show ((3988292384 : Nat) : Int) = 3988292384 from rfl] at this
              rw [this]; unfold f1; rw [if_pos hodd]; rfl
            rw [hodd] at e1
            clear hodd
            go_wp2_with fail
            go_round
            case rel => exact ⟨m + 1, by omega, by go_num, by rw [HSu.out]⟩
            case measure => simp [intOf]; omega
          · have h0 : X % 2 = 0 := by omega
            have e2 : Hid ((X : Int) / 2 = ((f1 X : Nat) : Int)) := hid (by unfold f1; rw [if_neg hodd, Nat.xor_zero]; omega)
            rw [h0] at e1
            clear hodd h0
            go_wp2_with fail
            go_round
            case rel => exact ⟨m + 1, by omega, by go_num, by rw [HSu.out, e2.out]⟩
            case measure => simp [intOf]; omega
        · have hm9 : m = 8 := by omega
          have HM := hid hm9
          clear hm9 e1
          go_wp2_with fail
          go_roundw
          case measure => simp [intOf]; omega
          case rel =>
            refine ⟨k + 1, cs.setIfInBounds k (.int .u32 (f8 k)), by omega, by go_num, ?_, by rw [Array.size_setIfInBounds]; exact HS.out, ?_, B1.other (by show w.heap.size ≠ q; omega) _, HF.setNew (by show w.heap.size ≤ q; omega) _⟩
            · have : X = f8 k := by rw [← HXX.out, HM.out]; rfl
              rw [this]; exact B2.set k _
            · intro j hj
              have hs := HS.out
              by_cases hjk : j = k
              · subst hjk; simp [hs, hlt]
              · rw [Array.getElem?_setIfInBounds, if_neg (fun e => hjk e.symm)]
                exact HA.out j (by omega)
    · have hk' : k = 256 := by omega
      have HE : Hid (cs = tabV) := hid (tabV_ext HS.out (fun j hj => HA.out j (by omega)))
      rw [HE.out] at B2
      have hle : 256 ≤ k := by omega
      clear hk'
      have hsz2 : (Try.prog.info? 125).map (·.size) = some tabV.size := by rw [H3.out, tabV_size]; simp [H2.out]
      have H5 := hid hsz2
      clear hsz2
      have B3 : Blk (wr.setRow w.heap.size tabV) w.heap.size tabV 125 := setRow_heap _ _ _ _ _ _ B1
      have hF2 := HF.setRow (g := w.heap.size) (.inl (Nat.le_refl _)) tabV
      go_wp2_with (first
        | (refine wpList_load_row rfl 125 _ rfl q rfl 125 tabV (0, 0) _ B2 Try.underlying125 rfl H5.out ?_)
        | (refine wpList_store_row rfl 125 _ _ rfl w.heap.size tabV rfl rfl 125 Z B1 H5.out (by rw [H1.out, tabV_size]) (Array.all_eq_true_iff_forall_mem.2 tabV_one) ?_))
      refine bodyPost_ret (v := .agg tabV) (results_cell_row rfl _ _ w.heap.size 125 tabV (0, 0) _ rfl B3 Try.underlying125 rfl H5.out) rfl ⟨rfl, hF2⟩
end Go.Proofs.Ytalbncnhmofgaaa
