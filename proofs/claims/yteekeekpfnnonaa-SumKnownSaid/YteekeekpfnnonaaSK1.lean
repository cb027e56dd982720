/-
  LEMMAS OF THE LAW SumKnown. Conditions: none.
-/
import Derived.Test.YteekeekpfnnonaaSumSums
import Derived.Test.YteekeekpfnnonaaSumBit
import Derived.Laws.MakeOwn
import Derived.Deep.RegionHeld3
namespace Go.Proofs.Yteekeekpfnnonaa
open Go.RowKit

theorem made_zero (n : Nat) : madeCells #[Value.int .u8 0] n = ((List.replicate n (0 : Int)).map (.int .u8)).toArray := by
  apply Array.ext
  · simp [madeCells]
  · intro i h1 h2
    simp [madeCells, Nat.mod_one]
theorem allB_zero (n : Nat) : AllB (List.replicate n (0 : Int)) := fun z hz => by rw [List.eq_of_mem_replicate hz]; decide
theorem make_bytes (w : World) (n : Nat) (h : n ≤ 512) : (Instr.makeSlice 22 (.int .i64 (n : Int)) (.int .i64 (n : Int))).run Try.prog w = .ok (.slice (some ⟨w.heap.size, 0, none⟩) n n) (w.alloc (.cells ((List.replicate n (0 : Int)).map (.int .u8)).toArray 5)) := by
  obtain ⟨i0, i1, i2, i3, i4⟩ := byteI
  have := run_make (P := Try.prog) w 22 5 i0 _ Try.underlying22 i1 i2 .i64 .i64 (n : Int) (n : Int) (by omega) (by omega) (by rw [i4]; omega) (by omega)
  rw [this]
  simp [i3, Value.cells, made_zero]
theorem zero_vw (w : World) (n : Nat) (h : n ≤ 512) : Vw .u8 (w.alloc (.cells ((List.replicate n (0 : Int)).map (.int .u8)).toArray 5)) (.slice (some ⟨w.heap.size, 0, none⟩) n n) (List.replicate n 0) := by
  have := Vw.made .u8 w (List.replicate n (0 : Int)) 5 (by simp [maxLen]; omega)
  simpa using this
theorem zero_short (n : Nat) (h : n < 4) : openR (List.replicate n 0) = ([], 3) := openR_short (by simpa using h)
theorem zero_4 : openR (List.replicate 4 0) = ([], 0) := by kernel_rfl
theorem zero_5 : openR (List.replicate 5 0) = ([], 60) := by kernel_rfl
theorem crc_0 : crc (nb []) = 0 := by kernel_rfl
theorem crc_z : crc (nb [0]) = 3523407757 := by kernel_rfl
theorem sealed_0 : sealed [] = [0, 0, 0, 0] := by kernel_rfl
theorem sealed_a : sealed [97] = [97, 232, 183, 190, 67] := by kernel_rfl

theorem run_convert_mid {P : Program} (w : World) (t e e2 : TypeId) (C D : Array Value) (n c : Nat) (ht : P.underlying t = some (.slice e)) (he : P.underlying e = some (.int .u8)) :
    (convert t t (.slice (some ⟨w.heap.size, 0, none⟩) n c)).run P ((w.alloc (.cells C e)).alloc (.cells D e2)) = .ok (.slice (some ⟨w.heap.size, 0, none⟩) n c) ((w.alloc (.cells C e (C.size, C.size + 1))).alloc (.cells D e2)) := by
  have hsh : ((w.alloc (.cells C e)).alloc (.cells D e2)).shape? w.heap.size = some (e, C.size) := by
    have : ((w.alloc (.cells C e)).alloc (.cells D e2)).heap[w.heap.size]? = some (.cells C e) := by
      show ((w.heap.push (.cells C e)).push (.cells D e2))[w.heap.size]? = _
      rw [Array.getElem?_push_lt (by simp)]
      simp
    unfold World.shape?
    rw [this]
  have hfr : ∀ (k : Nat), ((w.alloc (.cells C e)).alloc (.cells D e2)).freeze ⟨w.heap.size, k, none⟩ 1 = (w.alloc (.cells C e (k, k + 1))).alloc (.cells D e2) := fun k => by
    have hm : ∀ (a : Array Obj) (x y : Obj) (f : Obj → Obj), ((a.push x).push y).modify a.size f = (a.push (f x)).push y := by
      intro a x y f
      apply Array.ext
      · simp
      · intro i h1 h2
        simp only [Array.getElem_modify, Array.getElem_push, Array.size_push]
        by_cases h : a.size = i
        · subst h
          simp
        · repeat' split
          all_goals first | rfl | (exfalso; omega)
    unfold World.freeze
    rw [if_neg (by decide)]
    show ({ w.alloc (.cells C e) with heap := ((w.heap.push (.cells C e)).push (.cells D e2)).modify w.heap.size _ } : World) = _
    rw [hm]
    rfl
  simp [convert, run_underlying ht, run_underlying he, markStringish, hsh]
  exact hfr _

theorem row_put' {w : World} {e : TypeId} {g n cap : Nat} {zs : List Int} (hb : AllB zs) (h : w.ownsRow 0 e 1 (.slice (some ⟨g, 0, none⟩) n cap) n (zs.map (.int .u8))) (i : Nat) (z : Int) (hz : 0 ≤ z ∧ z ≤ 255) :
    ∃ ys : List Int, AllB ys ∧ (w.setCell ⟨g, i, none⟩ (.int .u8 z)).ownsRow 0 e 1 (.slice (some ⟨g, 0, none⟩) n cap) n (ys.map (.int .u8)) := by
  have := row_set h i (.int .u8 z)
  rw [← List.map_set] at this
  refine ⟨_, fun y hy => ?_, this⟩
  rcases List.mem_or_eq_of_mem_set hy with h | h
  · exact hb y h
  · subst h; exact hz

theorem zeros (n : Nat) (h : n ≤ 512) : ∃ zs : List Int, (∀ w : World, (Instr.makeSlice 22 (.int .i64 (n : Int)) (.int .i64 (n : Int))).run Try.prog w = .ok (.slice (some ⟨w.heap.size, 0, none⟩) n n) (w.alloc (.cells (zs.map (.int .u8)).toArray 5))) ∧
    (∀ w : World, Vw .u8 (w.alloc (.cells (zs.map (.int .u8)).toArray 5)) (.slice (some ⟨w.heap.size, 0, none⟩) n n) zs) ∧ (∀ w : World, (w.alloc (.cells (zs.map (.int .u8)).toArray 5)).ownsRow 0 5 1 (.slice (some ⟨w.heap.size, 0, none⟩) n n) n (zs.map (.int .u8))) ∧
    zs = List.replicate n 0 :=
  ⟨List.replicate n 0, fun w => make_bytes w n h, fun w => zero_vw w n h, fun w => by
    have := World.ownsRow_lit (base := 0) (size := 1) (e := 5) w ((List.replicate n (0 : Int)).map (.int .u8)).toArray n (Nat.zero_le _) (by unfold maxLen; omega) (by simp)
    simpa using this, rfl⟩

theorem fork2 {Q : Prop} {F G : Value → Value → World → Prop} (h1 : (∀ u v W, F u v W → G u v W) → Q) (h2 : ∀ u v W, F u v W → G u v W) : Q := h1 h2
theorem fork3 {Q : Prop} {F G : Value → Value → Value → World → Prop} (h1 : (∀ a u v W, F a u v W → G a u v W) → Q) (h2 : ∀ a u v W, F a u v W → G a u v W) : Q := h1 h2
theorem wpAnyH_relist {P : Program} {md : Region.Mode} {ops : Array Oper} {Q : Exit → Act → World → Prop} {S : World → Prop} {fuel : Nat} {l l' : Array Bool} {a : Act} {w : World} (h : l = l')
    (H : wpAnyH P md ops Q S fuel l' a w) : wpAnyH P md ops Q S fuel l a w := h ▸ H

end Go.Proofs.Yteekeekpfnnonaa
