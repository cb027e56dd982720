/-
  MERGES (ch 25): key, one, stamps. Conditions: fewer than 100000 items.
-/
import Derived.Test.YtfkffjjkmckpnaaMgD
import Derived.Test.YtfkffjjkmckpnaaEqI
import Derived.Test.YtfkffjjkmckpnaaBring
import Derived.Laws.StructEq
namespace Go.Proofs.Ytfkffjjkmckpnaa
open Go.RowKit Go.ChangeShapes Go.WideShapes Go.Deep

set_option linter.unusedSimpArgs false
set_option maxRecDepth 100000
deriving instance DecidableEq for Ky
theorem run_eql_key (W : World) (s a b q t c d r : Int) : (binOp .eql 32 (.agg #[.int .i64 s, .int .i64 a, .int .i64 b, .int .i64 q]) (.agg #[.int .i64 t, .int .i64 c, .int .i64 d, .int .i64 r])).run Try.prog W = .ok (.bool (decide ((Ky.mk s a b q) = ⟨t, c, d, r⟩))) W := by
  by_cases h0 : s = t <;> by_cases h1 : a = c <;> by_cases h2 : b = d <;> by_cases h3 : q = r <;> simp [go_sem, h0, h1, h2, h3]
theorem run_neq_key (W : World) (s a b q t c d r : Int) : (binOp .neq 32 (.agg #[.int .i64 s, .int .i64 a, .int .i64 b, .int .i64 q]) (.agg #[.int .i64 t, .int .i64 c, .int .i64 d, .int .i64 r])).run Try.prog W = .ok (.bool (!decide ((Ky.mk s a b q) = ⟨t, c, d, r⟩))) W := by
  by_cases h0 : s = t <;> by_cases h1 : a = c <;> by_cases h2 : b = d <;> by_cases h3 : q = r <;> simp [go_sem, h0, h1, h2, h3]
/-- An item with a stamp. -/
def oneP (n : Int) : PI := ⟨⟨n, 0, 0, 0⟩, 1, 0, 0, n, 0, 0, 0, false, kz, [], 0, 0, 0, 0⟩
theorem key_any (n : Int) (w : World) : Calls Try.prog 20 #[.int .i64 n] w fun e w' => e = .returned (Ky.mk n 0 0 0).agg ∧ Fr (fun _ => False) w w' := by
  go_enter Try.func20, Try.ntmps20
  go_wp2_with (refine wpList_new rfl 32 rfl #[.int .i64 0, .int .i64 0, .int .i64 0, .int .i64 0] zeroKey ?_)
  intro z w1 hz B1 f1 z1
  have HB1 := hid B1
  go_wp2_with (refine wpList_store_part rfl 32 _ _ rfl aggKey z 0 rfl HB1.out (.agg #[.int .i64 n, .int .i64 0, .int .i64 0, .int .i64 0]) rfl rfl (one_key ⟨n, 0, 0, 0⟩) (by decide) #[.int .i64 n, .int .i64 0, .int .i64 0, .int .i64 0] rfl ?_)
  intro w2 B2 f2 z2
  have HF2 := hid (f1.into f2 (by omega))
  go_wp2_with fail
  exact bodyPost_ret (v := .agg #[.int .i64 n, .int .i64 0, .int .i64 0, .int .i64 0]) (results_cell1 rfl _ aggKey rfl B2 rfl) rfl ⟨rfl, HF2.out⟩
theorem zeroItem' (W : World) : (zeroValue 46).run Try.prog W = .ok (.agg #[.int .i64 0, .int .i64 0, .int .i64 0, .int .i64 0, .int .i64 0, .int .i64 0, .int .i64 0, .int .i64 0, .int .i64 0, .int .i64 0, .int .i64 0, .bool false, .int .i64 0, .int .i64 0, .int .i64 0, .int .i64 0, .slice none 0 0, .int .i64 0, .int .i64 0, .int .i64 0, .int .i64 0]) W := zeroItem W
theorem oneP_a (n : Int) : (oneP n).a (.slice none 0 0) = #[.int .i64 n, .int .i64 0, .int .i64 0, .int .i64 0, .int .i64 1, .int .i64 0, .int .i64 0, .int .i64 n, .int .i64 0, .int .i64 0, .int .i64 0, .bool false, .int .i64 0, .int .i64 0, .int .i64 0, .int .i64 0, .slice none 0 0, .int .i64 0, .int .i64 0, .int .i64 0, .int .i64 0] := rfl
theorem one_lit (n : Int) : ∀ u ∈ (Value.agg #[.int .i64 n, .int .i64 0, .int .i64 0, .int .i64 0, .int .i64 1, .int .i64 0, .int .i64 0, .int .i64 n, .int .i64 0, .int .i64 0, .int .i64 0, .bool false, .int .i64 0, .int .i64 0, .int .i64 0, .int .i64 0, .slice none 0 0, .int .i64 0, .int .i64 0, .int .i64 0, .int .i64 0]).cells.toList, u.oneCell' = true := List.all_eq_true.1 (by rfl)
theorem one_any (n : Int) (w : World) : Calls Try.prog 18 #[.int .i64 n] w fun e w' => e = .returned (.agg #[.int .i64 n, .int .i64 0, .int .i64 0, .int .i64 0, .int .i64 1, .int .i64 0, .int .i64 0, .int .i64 n, .int .i64 0, .int .i64 0, .int .i64 0, .bool false, .int .i64 0, .int .i64 0, .int .i64 0, .int .i64 0, .slice none 0 0, .int .i64 0, .int .i64 0, .int .i64 0, .int .i64 0]) ∧ Fr (fun _ => False) w w' := by
  have HK := hid (fun W => key_any n W)
  unfold Ky.agg at HK
  go_enter Try.func18, Try.ntmps18
  go_wp2_with (refine wpList_new rfl 46 rfl #[.int .i64 0, .int .i64 0, .int .i64 0, .int .i64 0, .int .i64 0, .int .i64 0, .int .i64 0, .int .i64 0, .int .i64 0, .int .i64 0, .int .i64 0, .bool false, .int .i64 0, .int .i64 0, .int .i64 0, .int .i64 0, .slice none 0 0, .int .i64 0, .int .i64 0, .int .i64 0, .int .i64 0] zeroItem' ?_)
  intro z w1 hz B1 f1 z1
  have HB1 := hid B1
  have HZ := hid hz
  have HF1 := hid f1
  clear hz z1 B1 f1
  go_wp2_with fail
  with_reducible refine (HK.out _).mono ?_
  rintro e w2 ⟨rfl, f2⟩
  have HB2 := hid (HB1.out.keep f2 (fun h => h))
  have HF2 := hid (HF1.out.trans f2)
  go_wp2_with (first | (refine wpList_store_part rfl 46 _ _ rfl aggItem z 0 rfl HB2.out (.agg #[.int .i64 n, .int .i64 0, .int .i64 0, .int .i64 0, .int .i64 1, .int .i64 0, .int .i64 0, .int .i64 n, .int .i64 0, .int .i64 0, .int .i64 0, .bool false, .int .i64 0, .int .i64 0, .int .i64 0, .int .i64 0, .slice none 0 0, .int .i64 0, .int .i64 0, .int .i64 0, .int .i64 0]) rfl rfl (one_lit n) (by decide) #[.int .i64 n, .int .i64 0, .int .i64 0, .int .i64 0, .int .i64 1, .int .i64 0, .int .i64 0, .int .i64 n, .int .i64 0, .int .i64 0, .int .i64 0, .bool false, .int .i64 0, .int .i64 0, .int .i64 0, .int .i64 0, .slice none 0 0, .int .i64 0, .int .i64 0, .int .i64 0, .int .i64 0] rfl ?_))
  intro w3 B3 f3 z3
  have HF3 := hid (HF2.out.into f3 (by have := HZ.out; omega))
  go_wp2_with fail
  exact bodyPost_ret (v := .agg #[.int .i64 n, .int .i64 0, .int .i64 0, .int .i64 0, .int .i64 1, .int .i64 0, .int .i64 0, .int .i64 n, .int .i64 0, .int .i64 0, .int .i64 0, .bool false, .int .i64 0, .int .i64 0, .int .i64 0, .int .i64 0, .slice none 0 0, .int .i64 0, .int .i64 0, .int .i64 0, .int .i64 0]) (results_cell1 rfl _ aggItem rfl B3 rfl) rfl ⟨rfl, HF3.out⟩
theorem one_body (w : World) : bodyAt w (.slice none 0 0) [] := ⟨⟨none, 0, rfl, by simp, by simp [maxLen], by simp, fun i hi => by simp at hi⟩, fun x hx => by simp at hx, by simp⟩
/-- One of a row's items: its stamp. -/
theorem Its.nth {w : World} {v : Value} {L : List It} (h : Its w v L) {i : Nat} (hi : i < L.length) : ∃ g o cap, v = .slice (some ⟨g, o, none⟩) L.length cap ∧ L.length ≤ cap ∧ cap ≤ maxLen ∧ w.cell? ⟨g, o + i * 21, none⟩ = some (.int .i64 (L[i]).x.k.s) := by
  obtain ⟨g, o, cap, hv, _, h2, h3⟩ := h.1.pos (by omega)
  have hr := h.1
  rw [hv] at hr
  refine ⟨g, o, cap, hv, h2, h3, ?_⟩
  have := flat_at hi (j := 0) (by decide)
  rw [Nat.add_zero] at this
  exact hr.cells (i * 21) _ (by rw [this]; rfl)
theorem take_one {V : List Value} {k : Nat} {u : Value} (h : V[k]? = some u) : V.take (k + 1) = V.take k ++ [u] := by
  rw [List.take_add_one, h]
  rfl
theorem stamps_any (v : Value) (L : List It) (w : World) (h : Its w v L) (hl : L.length ≤ 100000) : Calls Try.prog 24 #[v] w fun e w' => ∃ u, e = .returned u ∧ w'.ownsRow 0 3 1 u L.length (L.map fun x => .int .i64 x.x.k.s) ∧ Above w.heap.size (footOf u) ∧ Fr (fun _ => False) w w' := by
  have HI := hid h
  obtain ⟨ao, cap0, hv⟩ := h.1.shape
  have HV := hid hv
  obtain ⟨N, hN⟩ : ∃ N, N = L.length := ⟨_, rfl⟩
  rw [← hN] at hv hl
  have HN := hid hN
  obtain ⟨i0, i1, i2, i3, i4⟩ := intI
  rw [hv]
  obtain ⟨V, hVL⟩ : ∃ V : List Value, V = L.map fun x => .int .i64 x.x.k.s := ⟨_, rfl⟩
  have HVL := hid hVL
  clear h hN hv hVL
  go_enter Try.func24, Try.ntmps24
  go_wp2_with fail
  go_loopw [3, 4] (fun x i wr => ∃ k : Nat, k ≤ N ∧ i = .int .i64 k ∧ wr.ownsRow 0 3 1 x k (V.take k) ∧ Fr (fun _ => False) w wr ∧ Above w.heap.size (footOf x)) (fun _ i _ => N - (intOf i).toNat)
  case atStart => exact ⟨0, by omega, rfl, World.ownsRow_nil _ _ _ _, Fr.refl _ _, fun b hb => by simp [footOf, Value.ownBlock] at hb⟩
  case round =>
    obtain ⟨k, hk, rfl, hr, hf, hab⟩ := hrel
    have HR := hid hr
    have HF := hid hf
    have HAB := hid hab
    by_cases hlt : k < N
    · have hkl : k < L.length := by rw [← HN.out]; exact hlt
      obtain ⟨g, o, cap, hv, hc1, hc2, hc0⟩ := (HI.out.keep hf (fun _ _ h => h) (fun _ _ h => h)).nth hkl
      rw [HV.out, ← HN.out] at hv
      injection hv with e1 _ e3
      subst e1; subst e3
      rw [← HN.out] at hc1
      have HNT := hid (take_one (V := V) (k := k) (u := .int .i64 (L[k]).x.k.s) (by rw [HVL.out, List.getElem?_map, List.getElem?_eq_getElem hkl]; rfl))
      generalize (L[k]).x.k.s = y at *
      clear hr hf hab hkl HV
      go_wp2_with (at_builtin; refine wpList_append_row rfl _ _ 23 rfl 3 i0 (.int .i64 0) 1 8 Try.underlying23 i1 i2 i3 i4 rfl (by decide) _ k (V.take k) rfl (HR.out.alloc _) ⟨wr.heap.size, 0, none⟩ 1 1 [.int .i64 y] rfl rfl (one_new _ _ _) (one_int _ _) ?c3 ?c4 ?_)
      case c3 => unfold maxLen; omega
      case c4 => omega
      intro v' w5 hown hfr hgr _
      have hf2 : Fr (fun _ => False) w w5 := (HF.out.alloc _).own hfr HAB.out
      have hz := HF.out.size
      have hab2 : Above w.heap.size (footOf v') := fun b hb => by
        rcases hgr b hb with h | h
        · exact HAB.out b h
        · simp at h; omega
      go_wp2_with fail
      go_roundw
      case rel =>
        refine ⟨k + 1, by omega, by go_num, ?_, hf2, hab2⟩
        rw [HNT.out]
        exact hown
      case measure => simp [intOf]; omega
    · have hkn : k = N := by omega
      have HTK : Hid (V.take k = V) := hid (List.take_of_length_le (by rw [HVL.out, List.length_map, ← HN.out]; omega))
      rw [HTK.out] at HR
      subst hkn
      clear hr hf hab
      go_wp2_with fail
      go_ret
      exact ⟨_, rfl, by rw [← HN.out, ← HVL.out]; exact HR.out, HAB.out, HF.out⟩
end Go.Proofs.Ytfkffjjkmckpnaa
