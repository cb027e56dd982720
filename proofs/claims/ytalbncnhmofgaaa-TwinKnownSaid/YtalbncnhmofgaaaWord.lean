/-
  A WRITER OF NUMBERS: Write, Put, Bytes. Conditions: it lies in memory as Write made it and calls turned it; below 2^40 bytes.
-/
import Derived.Test.YtalbncnhmofgaaaVwB
namespace Go.Proofs.Ytalbncnhmofgaaa
open Go.RowKit

structure WS (w : World) (g : Nat) (v : Value) (xs : List Int) : Prop where
  blk : Blk w g #[v, .bool true] 111
  row : w.ownsRow 0 5 1 v xs.length (xs.map (.int .u8))
  ne : g ∉ footOf v
theorem WS.keep {w w' : World} {g : Nat} {v : Value} {xs : List Int} (h : WS w g v xs) (f : Fr (fun _ => False) w w') : WS w' g v xs := ⟨h.blk.keep f (fun h => h), row_keep h.row f (fun _ _ h => h), h.ne⟩
theorem row_shape {w : World} {base : Nat} {e : TypeId} {size : Nat} {v : Value} {n : Nat} {xs : List Value} (h : w.ownsRow base e size v n xs) : ∃ ao cap, v = .slice ao n cap := by
  rcases h.2 with ⟨rfl, rfl⟩ | ⟨g, cap, cur, rfl, _⟩
  · have := h.1; simp at this
    exact ⟨none, 0, rfl⟩
  · exact ⟨_, cap, rfl⟩

theorem write_any (w : World) : Calls Try.prog 33 #[] w fun e w' => ∃ g, e = .returned (.pointer (some ⟨g, 0, none⟩)) ∧ WS w' g (.slice none 0 0) [] ∧ Fr (fun _ => False) w w' ∧ w.heap.size ≤ g := by
  go_enter Try.func33, Try.ntmps33
  go_wp2
  go_ret
  exact ⟨_, rfl, ⟨Blk.new _ _ _, World.ownsRow_nil _ _ _ _, by simp [footOf, Value.ownBlock]⟩, (Fr.refl _ _).alloc _, Nat.le_refl _⟩
theorem wnone_any {g : Nat} {v : Value} {xs : List Int} (w : World) (h : WS w g v xs) : Calls Try.prog 69 #[.pointer (some ⟨g, 0, none⟩)] w fun e w' => e = .returned (.bool false) ∧ w = w' := by
  have c1 := h.blk.cell 1 rfl
  go_enter Try.func69, Try.ntmps69
  go_wp2
  go_ret
  exact ⟨rfl, rfl⟩
theorem bytes_any {g : Nat} {v : Value} {xs : List Int} (w : World) (h : WS w g v xs) (hl : xs.length ≤ 140737488355328) : Calls Try.prog 36 #[.pointer (some ⟨g, 0, none⟩)] w fun e w' => ∃ v', e = .returned v' ∧ w'.ownsRow 0 5 1 v' xs.length (xs.map (.int .u8)) ∧ Fr (fun _ => False) w w' ∧ Above w.heap.size (footOf v') := by
  have c0 := h.blk.cell 0 rfl
  have HN := hid (wnone_any w h)
  have HC := hid (clone_any v xs w (Vw.of_row h.row) hl)
  obtain ⟨ao, cap, rfl⟩ := row_shape h.row
  clear h
  go_enter Try.func36, Try.ntmps36
  go_wp2_with fail
  refine HN.out.mono ?_
  rintro e w1 ⟨rfl, rfl⟩
  go_wp2_with fail
  refine HC.out.mono ?_
  rintro e w1 ⟨v', rfl, q1, q2, q3⟩
  obtain ⟨ao', cap', rfl⟩ := row_shape q1
  go_wp2_with fail
  go_ret
  exact ⟨_, rfl, q1, q2, q3⟩

/-! ### a number's bytes -/
def vbF : Nat → Nat → List Int
  | 0, x => [(x : Int)]
  | n + 1, x => if x < 128 then [(x : Int)] else ((x % 128 + 128 : Nat) : Int) :: vbF n (x / 128)
def vb (x : Nat) : List Int := vbF 8 x
theorem u8_more : ((List.range 256).all fun y => bits .or .u8 (y : Int) 128 == ((y % 128 + 128 : Nat) : Int)) = true := by kernel_rfl
theorem more_of (x : Nat) : bits .or .u8 (IntKind.u8.wrap (x : Int)) 128 = ((x % 128 + 128 : Nat) : Int) := by
  have e : IntKind.u8.wrap (x : Int) = ((x % 256 : Nat) : Int) := by
    simp [IntKind.wrap, IntKind.signed, IntKind.bits]
  rw [e]
  have := List.all_eq_true.1 u8_more (x % 256) (List.mem_range.2 (Nat.mod_lt _ (by decide)))
  rw [beq_iff_eq] at this
  rw [this]
  congr 1
  omega

set_option maxRecDepth 100000 in
set_option maxHeartbeats 1000000 in
theorem wput_any {g : Nat} {v : Value} {xs : List Int} (V : Nat) (w : World) (h : WS w g v xs) (hl : xs.length ≤ 1099511627776) (hV : V ≤ 9007199254740991) :
    Calls Try.prog 34 #[.pointer (some ⟨g, 0, none⟩), .int .i64 (V : Int)] w fun e w' => ∃ v', e = .returned (.int .i64 0) ∧ WS w' g v' (xs ++ vb V) ∧ Fr (fun k => k = g ∨ k ∈ footOf v) w w' ∧ Grows w (footOf v) (footOf v') := by
  obtain ⟨i0, i1, i2, i3, i4⟩ := byteI
  have HN := hid (wnone_any w h)
  have HS := hid h
  clear h
  go_enter Try.func34, Try.ntmps34
  go_wp2_with fail
  refine HN.out.mono ?_
  rintro e w1 ⟨rfl, rfl⟩
  go_wp2_with fail
  go_loopw [5] (fun x wr => ∃ X n : Nat, ∃ v' : Value, ∃ pre : List Int, x = .int .u64 (X : Int) ∧ WS wr g v' (xs ++ pre) ∧ pre ++ vbF n X = vb V ∧ X < 128 ^ n ∧ pre.length + n = 8 ∧ Fr (fun k => k = g ∨ k ∈ footOf v) w wr ∧ Grows w (footOf v) (footOf v')) (fun i _ => (intOf i).toNat)
  case atStart =>
    refine ⟨V, 8, v, [], ?_, by simpa using HS.out, rfl, by omega, rfl, Fr.refl _ _, Grows.refl _ _⟩
    first | rfl | (congr 1; rw [IntKind.wrap_u64]; omega)
  case round =>
    obtain ⟨X, n, v', pre, rfl, hws, hvb, hXn, hpn, hf, hg⟩ := hrel
    obtain ⟨ys, hys⟩ : ∃ ys, ys = xs ++ pre := ⟨_, rfl⟩
    have HYS : Hid (ys = xs ++ pre) := hid hys
    have hyl : ys.length ≤ 1099511627784 := by rw [hys, List.length_append]; omega
    rw [← hys] at hws
    clear hys
    have HR := hid hws.row
    have HB := hid hws.blk
    have HNE := hid hws.ne
    have HF := hid hf
    have HG := hid hg
    have HVB := hid hvb
    obtain ⟨ao, cap, rfl⟩ := row_shape hws.row
    have c0 := hws.blk.cell 0 rfl
    have hX : X < 18446744073709551616 := Nat.lt_of_lt_of_le hXn (Nat.le_trans (Nat.pow_le_pow_right (by decide) (show n ≤ 8 by omega)) (by decide))
    clear hws hvb hf hg
    by_cases hlt : X < 128
    · have hb : IntKind.u8.wrap (X : Int) = (X : Int) := by
        simp [IntKind.wrap, IntKind.signed, IntKind.bits]; omega
      have HEND : Hid (pre ++ [(X : Int)] = vb V) := hid (by
        have := HVB.out
        cases n with
        | zero => exact this
        | succ n => unfold vbF at this; rw [if_pos hlt] at this; exact this)
      go_wp2_with (at_builtin; refine wpList_append_row rfl _ _ 22 rfl 5 i0 (.int .u8 0) 1 1 Try.underlying22 i1 i2 i3 i4 rfl (by decide) _ ys.length (ys.map (.int .u8)) rfl (HR.out.alloc _) ⟨wr.heap.size, 0, none⟩ 1 1 [.int .u8 ((X : Int))] rfl rfl (one_new _ _ _) (one_int _ _) ?c3 ?c4 ?_)
      case c3 => unfold maxLen; omega
      case c4 => omega
      intro v'' w2 hown hfr hgr _
      have hB2 := (HB.out.alloc (.cells #[.int .u8 ((X : Int))] 5)).keep hfr HNE.out
      have hF2 : Fr (fun k => k = g ∨ k ∈ footOf v) w w2 := (HF.out.alloc _).step hfr (fun k hk hm => by
        rcases HG.out k hm with h | h
        · exact .inr h
        · omega)
      have hz := HF.out.size
      have hG2 : Grows w (footOf v) (footOf v'') := fun k hk => by
        rcases hgr k hk with h | h
        · exact HG.out k h
        · simp at h; exact .inr (by omega)
      have hne2 : g ∉ footOf v'' := fun hk => by
        rcases hgr g hk with h | h
        · exact HNE.out h
        · have := HB.out.lt; simp at h; omega
      obtain ⟨ao2, cap2, rfl⟩ := row_shape hown
      have c2 := hB2.cell 0 rfl
      have f2 := hB2.free 0
      have hf3 : Fr (· = g) w2 (w2.setCell ⟨g, 0, none⟩ (.slice ao2 (ys.length + 1) cap2)) := (Fr.refl _ w2).set1 0 _
      have hW3 : Hid (WS (w2.setCell ⟨g, 0, none⟩ (.slice ao2 (ys.length + 1) cap2)) g (.slice ao2 (ys.length + 1) cap2) (xs ++ (pre ++ [(X : Int)]))) := hid ⟨hB2.set' 0 _ rfl, by
        have := row_keep hown hf3 (fun k hk e => hne2 (by subst e; exact hk))
        have e0 : xs ++ (pre ++ [(X : Int)]) = ys ++ [(X : Int)] := by rw [HYS.out, List.append_assoc]
        rw [e0, List.length_append, List.map_append]
        exact this, hne2⟩
      have HF3 := hid (hF2.step hf3 (fun k _ h => .inl h))
      have HG2 := hid hG2
      clear hown hfr hgr hB2 hF2 hG2 hne2 hf3
      go_wp2_with fail
      go_ret
      exact ⟨_, rfl, by rw [← HEND.out]; exact hW3.out, HF3.out, HG2.out⟩
    · obtain ⟨n', rfl⟩ : ∃ n', n = n' + 1 := by
        cases n with
        | zero => simp at hXn; omega
        | succ n' => exact ⟨n', rfl⟩
      have hb := more_of X
      have hb2 : bits .or .u8 ((X : Int) % 256) 128 = ((X % 128 + 128 : Nat) : Int) := by rw [← hb]; congr 1
      have HNX : Hid ((pre ++ [((X % 128 + 128 : Nat) : Int)]) ++ vbF n' (X / 128) = vb V ∧ X / 128 < 128 ^ n') := hid ⟨by
        have := HVB.out
        unfold vbF at this
        rw [if_neg hlt] at this
        rw [List.append_assoc]
        exact this, by rw [Nat.pow_succ] at hXn; omega⟩
      obtain ⟨q, hq⟩ : ∃ q : Nat, q = X % 128 + 128 := ⟨_, rfl⟩
      rw [← hq] at hb hb2 HNX
      clear hq
      go_wp2_with (at_builtin; refine wpList_append_row rfl _ _ 22 rfl 5 i0 (.int .u8 0) 1 1 Try.underlying22 i1 i2 i3 i4 rfl (by decide) _ ys.length (ys.map (.int .u8)) rfl (HR.out.alloc _) ⟨wr.heap.size, 0, none⟩ 1 1 [.int .u8 ((q : Int))] rfl rfl (one_new _ _ _) (one_int _ _) ?c3 ?c4 ?_)
      case c3 => unfold maxLen; omega
      case c4 => omega
      intro v'' w2 hown hfr hgr _
      have hB2 := (HB.out.alloc (.cells #[.int .u8 ((q : Int))] 5)).keep hfr HNE.out
      have hF2 : Fr (fun k => k = g ∨ k ∈ footOf v) w w2 := (HF.out.alloc _).step hfr (fun k hk hm => by
        rcases HG.out k hm with h | h
        · exact .inr h
        · omega)
      have hz := HF.out.size
      have hG2 : Grows w (footOf v) (footOf v'') := fun k hk => by
        rcases hgr k hk with h | h
        · exact HG.out k h
        · simp at h; exact .inr (by omega)
      have hne2 : g ∉ footOf v'' := fun hk => by
        rcases hgr g hk with h | h
        · exact HNE.out h
        · have := HB.out.lt; simp at h; omega
      obtain ⟨ao2, cap2, rfl⟩ := row_shape hown
      have c2 := hB2.cell 0 rfl
      have f2 := hB2.free 0
      have hf3 : Fr (· = g) w2 (w2.setCell ⟨g, 0, none⟩ (.slice ao2 (ys.length + 1) cap2)) := (Fr.refl _ w2).set1 0 _
      have hW3 : Hid (WS (w2.setCell ⟨g, 0, none⟩ (.slice ao2 (ys.length + 1) cap2)) g (.slice ao2 (ys.length + 1) cap2) (xs ++ (pre ++ [(q : Int)]))) := hid ⟨hB2.set' 0 _ rfl, by
        have := row_keep hown hf3 (fun k hk e => hne2 (by subst e; exact hk))
        have e0 : xs ++ (pre ++ [(q : Int)]) = ys ++ [(q : Int)] := by rw [HYS.out, List.append_assoc]
        rw [e0, List.length_append, List.map_append]
        exact this, hne2⟩
      have HF3 := hid (hF2.step hf3 (fun k _ h => .inl h))
      have HG2 := hid hG2
      clear hown hfr hgr hB2 hF2 hG2 hne2 hf3
      go_wp2_with fail
      go_roundw
      case rel => exact ⟨X / 128, n', _, pre ++ [(q : Int)], by go_num, hW3.out, HNX.out.1, HNX.out.2, by simp; omega, HF3.out, HG2.out⟩
      case measure => simp [intOf]; omega
end Go.Proofs.Ytalbncnhmofgaaa
