/-
  WHAT slices.Grow DOES TO A ROW OF ONE'S OWN. Conditions: four bytes more, at most 2^47 in all.
-/
import Derived.Test.YtalbncnhmofgaaaVwFns
import Derived.Lib.AppendZerosOnto
import Derived.WalkSpells
namespace Go.Proofs.Ytalbncnhmofgaaa
open Go.RowKit

theorem wpList_append_run {P : Program} {w : World} {ops : Array Oper} {rest : List Oper} {o : Oper} {a : Act} {Q : Exit → Act → World → Prop} (hgd : o.guard = none) (s x : Operand) (t tn : TypeId)
    (hop : o.op = Op.call { callee := Callee.builtin Builtin.append, args := #[s, x], argTypes := #[t, tn] }) (sv xv : Value) (hs : a.eval s = sv) (hx : a.eval x = xv) (v' : Value) (w' : World)
    (hrun : (Builtin.append_ #[t, tn] o.type #[sv, xv]).run P w = .ok v' w') (h : wpList P ops Q rest (a.put o.dst v') w') : wpList P ops Q (o :: rest) a w := by
  refine wpList_plain hgd fun K hK => ?_
  unfold Oper.wp
  simp [execOp, hop, resolve, invoke, builtin, hs, hx, hrun, Result.andThen]
  exact hK _ _ h

theorem grown_row (w : World) (t : TypeId) (xs : List Value) (olds : List Value) (n need g : Nat) (hn : n ≤ olds.length) (hx : olds.take n = xs) (hxl : xs.length = n) (k : Nat) (hk : olds.length + k = need) (hg : need ≤ g) (hm : g ≤ maxLen) (Y Z : Array Value) (hY : Y.size = k) (hZ : Z.size = g - need) :
    (w.alloc (.cells (olds.toArray ++ Y ++ Z) t)).ownsRow w.heap.size t 1 (.slice (some ⟨w.heap.size, 0, none⟩) n g) n xs := by
  refine ⟨by omega, .inr ⟨w.heap.size, g, _, rfl, Nat.le_refl _, heap_alloc_new w _, by omega, hm, ?_, ?_⟩⟩
  · simp [hY, hZ]; omega
  · rw [Nat.mul_one, Array.toList_append, Array.toList_append, List.append_assoc, List.take_append_of_le_length (by simpa using hn)]
    simpa using hx

set_option maxRecDepth 100000 in
set_option maxHeartbeats 1000000 in
theorem grow_any (v : Value) (n : Nat) (xs : List Value) (w : World) (hr : w.ownsRow 0 5 1 v n xs) (hl : n + 4 ≤ 140737488355328) :
    Calls Try.prog 66 #[v, .int .i64 4] w fun e w' => ∃ v', e = .returned v' ∧ w'.ownsRow 0 5 1 v' n xs ∧ Fr (fun _ => False) w w' ∧ Grows w (footOf v) (footOf v') := by
  obtain ⟨i0, i1, i2, i3, i4⟩ := byteI
  have hxl := row_len hr
  rcases id hr.2 with ⟨rfl, rfl⟩ | ⟨g, cap, cur, rfl, hg, hh, hc, hm, hs, ht⟩
  · have hx0 : xs = [] := List.eq_nil_of_length_eq_zero hxl
    subst hx0
    have hrun := Lib.run_append_grow_zeros (P := Try.prog) w 22 3 22 5 i0 _ .i64 .i64 Try.underlying22 Try.underlying3 i1 i2 none 0 0 [] (by simp [Builtin.firstCells]) 4 (by omega) (by omega) (by omega) (by omega) (by omega) (by rw [i4, Nat.mul_one]; decide)
    have hge := grownCap_ge w (0 + 4) 0 5
    have hle := grownCap_le_maxLen w (0 + 4) 0 5 (by simp [maxLen])
    have hrow := grown_row w.drew 5 [] [] 0 (0 + 4) (grownCap w (0 + 4) 0 5) (by simp) rfl rfl 4 rfl hge hle (Builtin.zeroCells (Value.int .u8 0).cells 4) (Builtin.zeroCells (Value.int .u8 0).cells (grownCap w (0 + 4) 0 5 - (0 + 4))) (by rw [size_zeroCells]; rfl) (by rw [size_zeroCells]; simp [Value.cells])
    have hF : Fr (fun _ => False) w (w.drew.alloc (.cells ([].toArray ++ Builtin.zeroCells (Value.int .u8 0).cells 4 ++ Builtin.zeroCells (Value.int .u8 0).cells (grownCap w (0 + 4) 0 5 - (0 + 4))) 5)) := ((Fr.refl _ w).drew).alloc _
    generalize grownCap w (0 + 4) 0 5 = G at *
    generalize (w.drew.alloc (.cells ([].toArray ++ Builtin.zeroCells (Value.int .u8 0).cells 4 ++ Builtin.zeroCells (Value.int .u8 0).cells (G - (0 + 4))) 5)) = w2 at *
    have HG := hid hge
    have HL := hid hle
    have hG : (G : Int) ≤ 9223372036854775807 := by unfold maxLen at hle; omega
    clear hge hle
    go_enter Try.func66, Try.ntmps66
    go_wp2_with (refine wpList_append_run rfl _ _ 22 3 rfl _ _ rfl rfl _ _ hrun ?_)
    refine bodyPost_ret (v := .slice (some ⟨w.heap.size, 0, none⟩) 0 G) (by simp [results, Try.results66, go_sem]) rfl ⟨_, rfl, row_base hrow (fun k hk => Nat.zero_le _), hF, fun k hk => ?_⟩
    simp [footOf, Value.ownBlock] at hk
    exact .inr (by omega)
  · by_cases hroom : n + 4 ≤ cap
    · have hk : (4 : Int) - ((cap : Int) - (n : Int)) ≤ 0 := by omega
      have hm' : (cap : Int) ≤ 9223372036854775807 := by unfold maxLen at hm; omega
      have hm0 := hid hm
      have hs0 := hid hs
      have ht0 := hid ht
      clear hm hs ht
      go_enter Try.func66, Try.ntmps66
      go_wp2_with fail
      go_ret
      exact ⟨_, rfl, hr, Fr.refl _ _, Grows.refl _ _⟩
    · obtain ⟨k, hk⟩ : ∃ k : Nat, (k : Int) = (4 : Int) - ((cap : Int) - (n : Int)) ∧ 0 < k ∧ cap + k = n + 4 := ⟨4 - (cap - n), by omega, by omega, by omega⟩
      obtain ⟨hk, hk0, hkn⟩ := hk
      have hm' : (cap : Int) ≤ 140737488355328 := by omega
      have hcl : cur.toList.length = cap := by simpa using hs
      have hfirst : (Builtin.firstCells i0.size cap (.slice (some ⟨g, 0, none⟩) cap cap)).run Try.prog w.drew = .ok cur.toList.toArray w.drew := by
        refine run_firstCells_some (P := Try.prog) w.drew i0.size cap ⟨g, 0, none⟩ cap cap cur.toList (by rw [i3, hcl]; omega) (fun j u hu => ?_)
        rw [Addr.add_lit, Nat.zero_add, cell_of_row w.drew g j cur 5 (0, 0) hh]
        simpa using hu
      have hrun := Lib.run_append_grow_zeros (P := Try.prog) w 22 3 22 5 i0 _ .i64 .i64 Try.underlying22 Try.underlying3 i1 i2 (some ⟨g, 0, none⟩) cap cap cur.toList hfirst k hk0 (by omega) (by omega) (by omega) (by rw [i4]; omega) (by rw [i4]; exact growslice_fits (by omega) (by omega))
      have hge := grownCap_ge w (cap + k) cap 5
      have hle := grownCap_le_maxLen w (cap + k) cap 5 (by simp [maxLen]; omega)
      have hrow := grown_row w.drew 5 xs cur.toList n (cap + k) (grownCap w (cap + k) cap 5) (by omega) (by simpa using ht) hxl k (by omega) hge hle (Builtin.zeroCells (Value.int .u8 0).cells k) (Builtin.zeroCells (Value.int .u8 0).cells (grownCap w (cap + k) cap 5 - (cap + k))) (by rw [size_zeroCells]; simp [Value.cells]) (by rw [size_zeroCells]; simp [Value.cells])
      have hF : Fr (fun _ => False) w (w.drew.alloc (.cells (cur.toList.toArray ++ Builtin.zeroCells (Value.int .u8 0).cells k ++ Builtin.zeroCells (Value.int .u8 0).cells (grownCap w (cap + k) cap 5 - (cap + k))) 5)) := ((Fr.refl _ w).drew).alloc _
      generalize grownCap w (cap + k) cap 5 = G at *
      generalize (w.drew.alloc (.cells (cur.toList.toArray ++ Builtin.zeroCells (Value.int .u8 0).cells k ++ Builtin.zeroCells (Value.int .u8 0).cells (G - (cap + k))) 5)) = w2 at *
      have HL := hid hle
      have hG : (G : Int) ≤ 9223372036854775807 := by unfold maxLen at hle; omega
      have hpos : (4 : Int) - ((cap : Int) - (n : Int)) > 0 := by omega
      have hnG : n ≤ G := by omega
      have hkG : cap + k ≤ G := hge
      have H1 := hid hs
      have H2 := hid ht
      have H3 := hid hfirst
      have H4 := hid hcl
      have H5 := hid hm
      clear hle hs ht hfirst hcl hge hm
      rw [hk] at hrun
      go_enter Try.func66, Try.ntmps66
      go_wp2_with (refine wpList_append_run rfl _ _ 22 3 rfl _ _ rfl rfl _ _ hrun ?_)
      refine bodyPost_ret (v := .slice (some ⟨w.heap.size, 0, none⟩) n G) (by simp [results, Try.results66, go_sem]) rfl ⟨_, rfl, row_base hrow (fun k hk => Nat.zero_le _), hF, fun k hk => ?_⟩
      simp [footOf, Value.ownBlock] at hk
      exact .inr (by omega)
end Go.Proofs.Ytalbncnhmofgaaa
