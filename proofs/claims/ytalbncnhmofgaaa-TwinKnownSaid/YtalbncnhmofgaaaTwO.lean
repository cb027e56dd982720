/-
  THE WALK OF TwinKnown (ch 11). Conditions: none.
-/
import Derived.Test.YtalbncnhmofgaaaTwN
import Derived.Test.YtalbncnhmofgaaaTwH
namespace Go.Proofs.Ytalbncnhmofgaaa
open Go.RowKit Go.ChangeShapes Go.WideShapes

set_option linter.unusedSimpArgs false
set_option maxRecDepth 100000
theorem mx_mem {L : List Int} : 0 < mx L → mx L ∈ L := by
  induction L with
  | nil => intro h; simp [mx] at h
  | cons x r ih =>
    intro h
    simp only [mx] at *
    rcases Int.le_total x (mx r) with h1 | h1
    · rw [show max x (mx r) = mx r by omega] at *
      exact List.mem_cons_of_mem _ (ih h)
    · rw [show max x (mx r) = x by omega]
      exact List.mem_cons_self
theorem seen_not {A : HM} {a b k : Int} (h : Seen A a b k) (hk : 1 ≤ k) : freshH (A a) b k = false ∧ Seen (upd A a (nextH (A a) b k)) a b k := by
  refine ⟨?_, seen_again h hk⟩
  rcases h with ⟨h1, rfl⟩ | ⟨L, h1, h2⟩
  · omega
  · rw [h1]
    have hm : k ∈ L := by rw [← h2]; exact mx_mem (by omega)
    simp [freshH, isF, hm]
theorem seen_upd {A : HM} {a b k c : Int} {x : Int × List Int} (h : Seen A a b k) (hc : c ≠ a) : Seen (upd A c x) a b k := by
  unfold Seen upd at *
  rw [if_neg (fun e => hc e.symm)]
  exact h
theorem upd_ne {A : HM} {a c : Int} {x : Int × List Int} (hc : a ≠ c) : upd A c x a = A a := by unfold upd; rw [if_neg hc]
theorem upd_at (A : HM) (a : Int) (x : Int × List Int) : upd A a x a = some x := by unfold upd; rw [if_pos rfl]
theorem op_3 : openF [1, 2, 3] = zf 3 := by kernel_rfl
theorem op_60 : openF [1, 2, 3, 4] = zf 60 := by kernel_rfl
theorem op_60b : openF [1, 2, 3, 4, 5] = zf 60 := by kernel_rfl
theorem op_nil : openF [] = zf 3 := by kernel_rfl
theorem open_seal (zs : List Int) : openF (sealed zs) = op0 zs := by
  unfold openF; rw [openR_sealed]; simp
theorem os_2 : openF (sealed []) = zf 3 := by rw [open_seal]; kernel_rfl
theorem os_3 : openF (sealed [1, 2]) = zf 3 := by rw [open_seal]; kernel_rfl
theorem os_4 : openF (sealed [1, 2, 3, 1]) = zf 3 := by rw [open_seal]; kernel_rfl
theorem os_5 : openF (sealed [1, 2, 3, 0]) = ⟨1, 2, 3, [], 0⟩ := by rw [open_seal]; kernel_rfl
theorem os_6 : openF (sealed [1, 2, 3, 0, 0]) = zf 4 := by rw [open_seal]; kernel_rfl
theorem os_7 : openF (sealed [0, 2, 3, 0]) = zf 4 := by rw [open_seal]; kernel_rfl
theorem os_8 : openF (sealed [9, 2, 3, 0]) = zf 4 := by rw [open_seal]; kernel_rfl
theorem os_9 : openF (sealed [1, 0, 3, 0]) = zf 4 := by rw [open_seal]; kernel_rfl
theorem os_10 : openF (sealed [1, 2, 0, 0]) = zf 4 := by rw [open_seal]; kernel_rfl
theorem os_11 : openF (sealed [1, 128, 0, 3, 0]) = zf 4 := by rw [open_seal]; kernel_rfl
theorem os_12 : openF (sealed [1, 2, 3, 129, 4]) = zf 5 := by rw [open_seal]; kernel_rfl
theorem made_zero (n : Nat) : madeCells #[Value.int .u8 0] n = ((List.replicate n (0 : Int)).map (.int .u8)).toArray := by
  apply Array.ext
  · simp [madeCells]
  · intro i h1 h2
    simp [madeCells, Nat.mod_one]
theorem allB_zero (n : Nat) : AllB (List.replicate n (0 : Int)) := fun z hz => by rw [List.eq_of_mem_replicate hz]; decide
theorem make_bytes (w : World) (n : Nat) (h : n ≤ 600) : (Instr.makeSlice 22 (.int .i64 (n : Int)) (.int .i64 (n : Int))).run Try.prog w = .ok (.slice (some ⟨w.heap.size, 0, none⟩) n n) (w.alloc (.cells ((List.replicate n (0 : Int)).map (.int .u8)).toArray 5)) := by
  obtain ⟨i0, i1, i2, i3, i4⟩ := byteI
  have := run_make (P := Try.prog) w 22 5 i0 _ Try.underlying22 i1 i2 .i64 .i64 (n : Int) (n : Int) (by omega) (by omega) (by rw [i4]; omega) (by omega)
  rw [this]
  simp [i3, Value.cells, made_zero]
theorem Vw.made' (w : World) (zs : List Int) (t : TypeId) (hl : zs.length ≤ maxLen) : Vw .u8 (w.alloc (.cells (zs.map (.int .u8)).toArray t)) (.slice (some ⟨w.heap.size, 0, none⟩) zs.length zs.length) zs := by
  refine ⟨_, zs.length, rfl, Nat.le_refl _, hl, by simp, fun i hi => ⟨w.heap.size, 0, rfl, by simp, ?_⟩⟩
  have hb : (w.alloc (.cells (zs.map (.int .u8)).toArray t)).heap[w.heap.size]? = some (.cells (zs.map (.int .u8)).toArray t (0, 0)) := heap_alloc_new w _
  rw [Nat.zero_add]
  rw [cell_of_row _ _ _ _ _ _ hb]
  simpa using ints_get (q := .u8) hi
theorem zero_vw (w : World) (n : Nat) (h : n ≤ 600) : Vw .u8 (w.alloc (.cells ((List.replicate n (0 : Int)).map (.int .u8)).toArray 5)) (.slice (some ⟨w.heap.size, 0, none⟩) n n) (List.replicate n 0) := by
  have := Vw.made' w (List.replicate n (0 : Int)) 5 (by simp [maxLen]; omega)
  simpa using this
/-- What New answers. -/
theorem new_c (a b c e : Int) (w : World) (h : (e = 2 ∧ ¬ (1 ≤ a ∧ a ≤ 8 ∧ okN b = true ∧ 1 ≤ c ∧ c ≤ 3)) ∨ (e = 0 ∧ 1 ≤ a ∧ a ≤ 8 ∧ okN b = true ∧ 1 ≤ c ∧ c ≤ 3)) :
    Calls Try.prog 18 #[.int .i64 a, .int .i64 b, .int .i64 c, .bool true] w fun x w' => ∃ o : Option Addr, x = .returned (.tuple #[.pointer o, .int .i64 e]) ∧ (o = none ↔ e ≠ 0) ∧ Fr (fun _ => False) w w' := by
  rcases h with ⟨rfl, h⟩ | ⟨rfl, h1, h2, h3, h4, h5⟩
  · refine (tnew_bad a b c true w h).mono ?_
    rintro x w' ⟨rfl, f⟩
    exact ⟨none, rfl, by simp, f⟩
  · obtain ⟨n, rfl⟩ : ∃ n : Nat, c = n := ⟨c.toNat, by omega⟩
    refine (tnew_ok a b n true w h1 h2 h3 (by omega) (by omega)).mono ?_
    rintro x w' ⟨p, m, rfl, _, _, _, f⟩
    exact ⟨some ⟨p, 0, none⟩, rfl, by simp, f⟩
def S4 (k : Nat) : TS := ⟨3, 1, false, (k : Int), k % 3, 3, 0, false, 0, false, 0, false⟩
theorem s4_step (k : Nat) (h : k < 4) : ∃ o d : Int, (o = 0 ∧ k = 0 ∨ o = 1 ∧ k = 1 ∨ o = 12 ∧ k = 2 ∨ o = 124 ∧ k = 3) ∧ (o * 10 + d = 1 ∧ k + 1 = 1 ∨ o * 10 + d = 12 ∧ k + 1 = 2 ∨ o * 10 + d = 124 ∧ k + 1 = 3 ∨ o * 10 + d = 1241 ∧ k + 1 = 4) ∧ 0 ≤ d ∧ d ≤ 4 ∧ wrapS (S4 k) [] = S4 (k + 1) ∧ (wrapR (S4 k) []).2 = (d, 0) := by
  rcases (show k = 0 ∨ k = 1 ∨ k = 2 ∨ k = 3 by omega) with rfl | rfl | rfl | rfl
  · exact ⟨0, 1, by omega, by omega, by omega, by omega, rfl, rfl⟩
  · exact ⟨1, 2, by omega, by omega, by omega, by omega, rfl, rfl⟩
  · exact ⟨12, 4, by omega, by omega, by omega, by omega, rfl, rfl⟩
  · exact ⟨124, 1, by omega, by omega, by omega, by omega, rfl, rfl⟩
theorem s4_inv (k : Nat) : (S4 k).inv k := by
  have h := invT_new (node := 3) (life := 1) (n := 3) (act := false) (by decide) (by decide)
  have z : (0 : Int) ≤ 0 ∧ (0 : Int) ≤ k := by omega
  exact ⟨h.n1, h.n3, Nat.mod_lt _ (by decide), h.well, z.2, Int.le_refl _, z, z, z, h.off1, h.off2⟩
def S5 (k : Nat) : TS := ⟨3, 1, false, 0, 0, 2, (k : Int), false, 0, false, 0, false⟩
theorem s5_step (k : Nat) (h : k < 10) : lookF (incS (S5 k) 0) = S5 (k + 1) := by
  rcases (show k = 0 ∨ k = 1 ∨ k = 2 ∨ k = 3 ∨ k = 4 ∨ k = 5 ∨ k = 6 ∨ k = 7 ∨ k = 8 ∨ k = 9 by omega) with rfl | rfl | rfl | rfl | rfl | rfl | rfl | rfl | rfl | rfl <;> kernel_rfl
theorem s5_inv (k : Nat) : (S5 k).inv k := by
  have h := invT_new (node := 3) (life := 1) (n := 2) (act := false) (by decide) (by decide)
  have z : (0 : Int) ≤ 0 ∧ (0 : Int) ≤ k := by omega
  exact ⟨h.n1, h.n3, h.nx, h.well, h.ser0, z.2, ⟨z.2, Int.le_refl _⟩, z, z, h.off1, h.off2⟩
def K5 (sr : Int) (nx : Nat) (a : Int) (b : Bool) (c : Int) (d : Bool) : TS := ⟨3, 1, false, sr, nx, 2, a, b, c, d, 0, false⟩
theorem k5_inv (sr : Int) (nx : Nat) (a : Int) (b : Bool) (c : Int) (d : Bool) (h : (0 ≤ sr ∧ sr ≤ 30) ∧ nx < 2 ∧ (0 ≤ a ∧ a ≤ 30) ∧ (0 ≤ c ∧ c ≤ 30) ∧ (b && d) = false) : (K5 sr nx a b c d).inv 30 := by
  obtain ⟨h1, h2, h3, h4, h5⟩ := h
  refine ⟨by show 1 ≤ 2; decide, by show 2 ≤ 3; decide, h2, ?_, h1.1, h1.2, h3, h4, by show (0 : Int) ≤ 0 ∧ (0 : Int) ≤ 30; decide, fun h => absurd h (by show ¬ 2 ≤ 1; decide), fun _ => ⟨rfl, rfl⟩⟩
  revert h5
  show (b && d) = false → wellB 2 b d false = true
  cases b <;> cases d <;> decide
section
variable {wt w : World} {p : Nat} {s s2 : TS} {A A2 : HM}
theorem come_k (l : Int) (v : Value) (a b c : Int) (fr : Bool) (h : T1 (fun _ => False) wt w p s A) (hi : s.inv 30) (hv : Vw .u8 w v (fz a b c [])) (hk : okF a b c = true) (h0 : 0 ≤ l) (h1 : l < s.n) (hs : lookF (incS s l.toNat) = s2) (hf : freshH (A a) b c = fr) (hA : upd A a (nextH (A a) b c) = A2) :
    Calls Try.prog 23 #[.pointer (some ⟨p, 0, none⟩), .int .i64 l, v] w fun e w' => e = .returned (.int .i64 (if fr then 1 else 0)) ∧ T1 (fun _ => False) wt w' p s2 A2 := by
  have h := comes_fz l v a b c [] h hi (by decide) hv AllB.nil hk (by decide) h0 h1
  rw [hs, hf, hA] at h
  exact h.mono fun e w' ⟨h1, h2, _⟩ => ⟨h1, h2⟩
theorem come_x (l : Int) (v : Value) (zs : List Int) (r : Int) (h : T1 (fun _ => False) wt w p s A) (hi : s.inv 30) (hv : Vw .u8 w v zs) (hb : AllB zs) (hl : zs.length ≤ 600) (he : chkR s.n l ≠ 0 ∨ (openF zs).er ≠ 0) (hr : comR (unwR s A l zs) = r) :
    Calls Try.prog 23 #[.pointer (some ⟨p, 0, none⟩), .int .i64 l, v] w fun e w' => e = .returned (.int .i64 r) ∧ T1 (fun _ => False) wt w' p s A := by
  have h := comes_1 l v zs h hi (by decide) hv hb (by omega)
  rw [hr, show unwS s l zs = s from if_pos he, show unwA s A l zs = A from if_pos he] at h
  exact h.mono fun e w' ⟨h1, h2, _⟩ => ⟨h1, h2⟩
theorem wrap_k (o : Int) (h : T1 (fun _ => False) wt w p s A) (hi : s.inv 30) (hs : wrapS s [] = s2) (hr : (wrapR s []).2 = (o, 0)) :
    Calls Try.prog 19 #[.pointer (some ⟨p, 0, none⟩), .slice none 0 0] w fun e w' => ∃ ao n cap, e = .returned (.tuple #[.slice ao n cap, .int .i64 o, .int .i64 0]) ∧ T1 (fun _ => False) wt w' p s2 A := by
  have h := wrap_1 (.slice none 0 0) [] h hi (by decide) (Vw.nil _ _) AllB.nil
  rw [hs, hr] at h
  refine h.mono ?_
  rintro e w' ⟨v, rfl, r, _, t, _⟩
  obtain ⟨ao, cap, rfl⟩ := row_shape r
  exact ⟨_, _, _, rfl, t⟩
theorem rei_k (l r : Int) (h : T1 (fun _ => False) wt w p s A) (hi : s.inv 30) (hr : reiR s l = r) (hs : reiS s l = s2) :
    Calls Try.prog 28 #[.pointer (some ⟨p, 0, none⟩), .int .i64 l] w fun e w' => e = .returned (.int .i64 r) ∧ T1 (fun _ => False) wt w' p s2 A := by
  have h := reinst_1 l h hi
  rw [hs, hr] at h
  exact h.mono fun e w' ⟨h1, h2, _⟩ => ⟨h1, h2⟩
theorem fau_k (r : Int) (h : T1 (fun _ => False) wt w p s A) (hi : s.inv 30) (hr : faultyF s = r) :
    Calls Try.prog 24 #[.pointer (some ⟨p, 0, none⟩)] w fun e w' => e = .returned (.int .i64 r) ∧ T1 (fun _ => False) wt w' p s A := by
  have h' := faulty_1 h hi
  rw [hr] at h'
  exact h'.mono fun e w' ⟨h1, h2⟩ => ⟨h1, h.keep0 h2⟩
end
theorem com_err {s : TS} {A : HM} {l e : Int} {zs : List Int} (h : (chkR s.n l = 0 ∧ (openF zs).er = e) ∨ chkR s.n l = e) (he : e ≠ 0) : comR (unwR s A l zs) = wrap64 (-e) := by
  unfold comR unwR
  rcases h with ⟨h1, h2⟩ | h
  · simp [h1, h2, he]
  · simp [h, he]
theorem s7_step (k : Nat) (h : k < 10) : lookF (incS (K5 2 1 11 false (11 + (k : Int)) false) (1 : Int).toNat) = K5 2 1 11 false (11 + ((k + 1 : Nat) : Int)) false := by
  rcases (show k = 0 ∨ k = 1 ∨ k = 2 ∨ k = 3 ∨ k = 4 ∨ k = 5 ∨ k = 6 ∨ k = 7 ∨ k = 8 ∨ k = 9 by omega) with rfl | rfl | rfl | rfl | rfl | rfl | rfl | rfl | rfl | rfl <;> kernel_rfl
def S6 : TS := K5 0 0 11 false 0 true
theorem frame_l (a b c : Int) (w : World) (hk : okF a b c = true) : Calls Try.prog 22 #[.int .i64 a, .int .i64 b, .int .i64 c, .slice none 0 0] w fun e w' => ∃ ao n cap, e = .returned (.slice ao n cap) ∧ Vw .u8 w' (.slice ao n cap) (fz a b c []) ∧ Fr (fun _ => False) w w' := by
  refine (frame_fz a b c (.slice none 0 0) [] w (Vw.nil _ _) AllB.nil hk (by decide)).mono ?_
  rintro e w' ⟨v, rfl, r, f, _⟩
  obtain ⟨ao, cap, rfl⟩ := row_shape r
  exact ⟨_, _, _, rfl, Vw.of_row r, f⟩
def OV (o : Int) (k : Nat) : Prop := o = 0 ∧ k = 0 ∨ o = 1 ∧ k = 1 ∨ o = 12 ∧ k = 2 ∨ o = 124 ∧ k = 3 ∨ o = 1241 ∧ k = 4
set_option maxHeartbeats 40000000 in
theorem known_any (w : World) : Calls Try.prog 9 #[] w fun e w' => e = .returned (.bool true) ∧ Fr (fun _ => False) w w' := by
  obtain ⟨ZC, hZC⟩ : ∃ ZC : Array Value, ZC = ((List.replicate 513 (0 : Int)).map (.int .u8)).toArray := ⟨_, rfl⟩
  have hmk : ∀ W, (Instr.makeSlice 22 (.int .i64 513) (.int .i64 513)).run Try.prog W = .ok (.slice (some ⟨W.heap.size, 0, none⟩) 513 513) (W.alloc (.cells ZC 5)) := fun W => by rw [hZC]; exact make_bytes W 513 (by decide)
  have HZV : Hid (∀ W : World, Vw .u8 (W.alloc (.cells ZC 5)) (.slice (some ⟨W.heap.size, 0, none⟩) 513 513) (List.replicate 513 0)) := hid (fun W => by rw [hZC]; exact zero_vw W 513 (by decide))
  clear hZC
  go_enter Try.func9, Try.ntmps9
  go_wp2_with fail
  have HB0 := hid (Blk.new w #[.int .i64 0, .int .i64 1, .int .i64 1, .int .i64 2, .int .i64 9, .int .i64 1, .int .i64 1, .int .i64 2, .int .i64 1, .int .i64 0, .int .i64 1, .int .i64 2, .int .i64 1, .int .i64 9007199254740992, .int .i64 1, .int .i64 2, .int .i64 1, .int .i64 1, .int .i64 0, .int .i64 2, .int .i64 1, .int .i64 1, .int .i64 4, .int .i64 2, .int .i64 8, .int .i64 9007199254740991, .int .i64 3, .int .i64 0, .int .i64 1, .int .i64 (-1), .int .i64 1, .int .i64 2] 63)
  have HF0 := hid ((Fr.refl (fun _ => False) w).alloc (.cells #[.int .i64 0, .int .i64 1, .int .i64 1, .int .i64 2, .int .i64 9, .int .i64 1, .int .i64 1, .int .i64 2, .int .i64 1, .int .i64 0, .int .i64 1, .int .i64 2, .int .i64 1, .int .i64 9007199254740992, .int .i64 1, .int .i64 2, .int .i64 1, .int .i64 1, .int .i64 0, .int .i64 2, .int .i64 1, .int .i64 1, .int .i64 4, .int .i64 2, .int .i64 8, .int .i64 9007199254740991, .int .i64 3, .int .i64 0, .int .i64 1, .int .i64 (-1), .int .i64 1, .int .i64 2] 63))
  generalize (w.alloc (.cells #[.int .i64 0, .int .i64 1, .int .i64 1, .int .i64 2, .int .i64 9, .int .i64 1, .int .i64 1, .int .i64 2, .int .i64 1, .int .i64 0, .int .i64 1, .int .i64 2, .int .i64 1, .int .i64 9007199254740992, .int .i64 1, .int .i64 2, .int .i64 1, .int .i64 1, .int .i64 0, .int .i64 2, .int .i64 1, .int .i64 1, .int .i64 4, .int .i64 2, .int .i64 8, .int .i64 9007199254740991, .int .i64 3, .int .i64 0, .int .i64 1, .int .i64 (-1), .int .i64 1, .int .i64 2] 63)) = w0 at *
  generalize w.heap.size = b0 at *
  go_loopw [59] (fun i wr => ∃ k : Nat, k ≤ 8 ∧ i = .int .i64 k ∧ Fr (fun _ => False) w0 wr) (fun i _ => 8 - (intOf i).toNat)
  case atStart => exact ⟨0, by omega, rfl, Fr.refl _ _⟩
  case round =>
    obtain ⟨k, hk, rfl, hf⟩ := hrel
    have HF := hid hf
    have HBR := hid (HB0.out.keep hf (fun h => h))
    clear hf
    by_cases hk8 : k < 8
    · obtain ⟨a, b, c, e, c0, c1, c2, c3, hnew⟩ : ∃ a b c e : Int, wr.cell? ⟨b0, k * 4, none⟩ = some (.int .i64 a) ∧ wr.cell? ⟨b0, k * 4 + 1, none⟩ = some (.int .i64 b) ∧ wr.cell? ⟨b0, k * 4 + 2, none⟩ = some (.int .i64 c) ∧ wr.cell? ⟨b0, k * 4 + 3, none⟩ = some (.int .i64 e) ∧ ((e = 2 ∧ ¬ (1 ≤ a ∧ a ≤ 8 ∧ okN b = true ∧ 1 ≤ c ∧ c ≤ 3)) ∨ (e = 0 ∧ 1 ≤ a ∧ a ≤ 8 ∧ okN b = true ∧ 1 ≤ c ∧ c ≤ 3)) := by
        have h := HBR.out
        rcases (show k = 0 ∨ k = 1 ∨ k = 2 ∨ k = 3 ∨ k = 4 ∨ k = 5 ∨ k = 6 ∨ k = 7 by omega) with rfl | rfl | rfl | rfl | rfl | rfl | rfl | rfl
        · exact ⟨0, 1, 1, 2, h.cell 0 rfl, h.cell 1 rfl, h.cell 2 rfl, h.cell 3 rfl, .inl ⟨rfl, by decide⟩⟩
        · exact ⟨9, 1, 1, 2, h.cell 4 rfl, h.cell 5 rfl, h.cell 6 rfl, h.cell 7 rfl, .inl ⟨rfl, by decide⟩⟩
        · exact ⟨1, 0, 1, 2, h.cell 8 rfl, h.cell 9 rfl, h.cell 10 rfl, h.cell 11 rfl, .inl ⟨rfl, by decide⟩⟩
        · exact ⟨1, 9007199254740992, 1, 2, h.cell 12 rfl, h.cell 13 rfl, h.cell 14 rfl, h.cell 15 rfl, .inl ⟨rfl, by decide⟩⟩
        · exact ⟨1, 1, 0, 2, h.cell 16 rfl, h.cell 17 rfl, h.cell 18 rfl, h.cell 19 rfl, .inl ⟨rfl, by decide⟩⟩
        · exact ⟨1, 1, 4, 2, h.cell 20 rfl, h.cell 21 rfl, h.cell 22 rfl, h.cell 23 rfl, .inl ⟨rfl, by decide⟩⟩
        · exact ⟨8, 9007199254740991, 3, 0, h.cell 24 rfl, h.cell 25 rfl, h.cell 26 rfl, h.cell 27 rfl, .inr ⟨rfl, by decide, by decide, by decide, by decide, by decide⟩⟩
        · exact ⟨1, (-1), 1, 2, h.cell 28 rfl, h.cell 29 rfl, h.cell 30 rfl, h.cell 31 rfl, .inl ⟨rfl, by decide⟩⟩
      have HK8 := hid hk8
      have HNEW := hid (fun W => new_c a b c e W hnew)
      have HJ9 : Hid (wrap64 ((k : Int) + 1) = ((k + 1 : Nat) : Int)) := hid (by rw [w64d (by omega) (by omega)]; omega)
      have HER : Hid (e = 0 ∨ e = 2) := hid (by rcases hnew with ⟨h, _⟩ | ⟨h, _⟩ <;> omega)
      have k0 : (0 : Int) ≤ (k : Int) := by omega
      have k1 : (k : Int) < 8 := by omega
      clear hk hk8 hnew
      have HX := hid (Blk.new wr #[.int .i64 a, .int .i64 b, .int .i64 c, .int .i64 e] 63)
      have HFX := hid (HF.out.alloc (.cells #[.int .i64 a, .int .i64 b, .int .i64 c, .int .i64 e] 63))
      go_wp2_with fail
      generalize (wr.alloc (.cells #[.int .i64 a, .int .i64 b, .int .i64 c, .int .i64 e] 63)) = wx at *
      generalize wr.heap.size = x at *
      clear c0 c1 c2 c3 k0
      with_reducible refine (HNEW.out wx).mono ?_
      rintro ee w2 ⟨o, rfl, ho, f2⟩
      have x3 := (HX.out.keep f2 (fun h => h)).cell (i := 3) rfl
      have hee : (e != e) = false := by simp
      have HF2 := hid (HFX.out.trans f2)
      have her := HER.out
      rcases her with he | he
      · subst he
        have hos : ∃ q, o = some q := by
          cases o with
          | none => exact absurd (ho.1 rfl) (by simp)
          | some q => exact ⟨q, rfl⟩
        obtain ⟨q, rfl⟩ := hos
        clear ho f2 HER
        go_wp2_with fail
        clear x3 hee k1
        go_roundw
        case rel => exact ⟨k + 1, by have := HK8.out; omega, by first | exact congrArg (Value.int .i64) HJ9.out | exact congrArg (Value.int .i64) (by omega), HF2.out⟩
        case measure => (have := HK8.out; (try rw [HJ9.out]); simp [intOf]; omega)
      · subst he
        have hos : o = none := ho.2 (by decide)
        subst hos
        clear ho f2 HER
        go_wp2_with fail
        clear x3 hee k1
        go_roundw
        case rel => exact ⟨k + 1, by have := HK8.out; omega, by first | exact congrArg (Value.int .i64) HJ9.out | exact congrArg (Value.int .i64) (by omega), HF2.out⟩
        case measure => (have := HK8.out; (try rw [HJ9.out]); simp [intOf]; omega)
    · have hk' : k = 8 := by omega
      subst hk'
      have HFA := hid (HF0.out.trans HF.out)
      clear hk hk8 HB0 HF0 HF HBR
      generalize wr = wa at *
      go_wp2_with fail
      clear hmk
      have hL0 := HZV.out wa
      have f1 := (Fr.refl (fun _ => False) wa).alloc (.cells ZC 5)
      have hB1 := Blk.new (wa.alloc (.cells ZC 5)) #[.int .i64 1, .int .i64 1, .int .i64 1, .slice (some ⟨wa.heap.size, 0, none⟩) 513 513, .int .i64 0, .int .i64 0, .int .i64 0, .slice (some ⟨wa.heap.size, 0, none⟩) 513 513, .int .i64 9, .int .i64 1, .int .i64 1, .slice none 0 0, .int .i64 1, .int .i64 0, .int .i64 1, .slice none 0 0, .int .i64 1, .int .i64 1, .int .i64 0, .slice none 0 0, .int .i64 1, .int .i64 1, .int .i64 9007199254740992, .slice none 0 0, .int .i64 1, .int .i64 1, .int .i64 1, .slice (some ⟨wa.heap.size, 0, none⟩) 512 513] 24
      have f2 := (Fr.refl (fun _ => False) (wa.alloc (.cells ZC 5))).alloc (.cells #[.int .i64 1, .int .i64 1, .int .i64 1, .slice (some ⟨wa.heap.size, 0, none⟩) 513 513, .int .i64 0, .int .i64 0, .int .i64 0, .slice (some ⟨wa.heap.size, 0, none⟩) 513 513, .int .i64 9, .int .i64 1, .int .i64 1, .slice none 0 0, .int .i64 1, .int .i64 0, .int .i64 1, .slice none 0 0, .int .i64 1, .int .i64 1, .int .i64 0, .slice none 0 0, .int .i64 1, .int .i64 1, .int .i64 9007199254740992, .slice none 0 0, .int .i64 1, .int .i64 1, .int .i64 1, .slice (some ⟨wa.heap.size, 0, none⟩) 512 513] 24)
      have hB2 := Blk.new ((wa.alloc (.cells ZC 5)).alloc (.cells #[.int .i64 1, .int .i64 1, .int .i64 1, .slice (some ⟨wa.heap.size, 0, none⟩) 513 513, .int .i64 0, .int .i64 0, .int .i64 0, .slice (some ⟨wa.heap.size, 0, none⟩) 513 513, .int .i64 9, .int .i64 1, .int .i64 1, .slice none 0 0, .int .i64 1, .int .i64 0, .int .i64 1, .slice none 0 0, .int .i64 1, .int .i64 1, .int .i64 0, .slice none 0 0, .int .i64 1, .int .i64 1, .int .i64 9007199254740992, .slice none 0 0, .int .i64 1, .int .i64 1, .int .i64 1, .slice (some ⟨wa.heap.size, 0, none⟩) 512 513] 24)) #[.int .i64 5, .int .i64 5, .int .i64 2, .int .i64 2, .int .i64 2, .int .i64 2, .int .i64 0] 26
      have f3 := (Fr.refl (fun _ => False) ((wa.alloc (.cells ZC 5)).alloc (.cells #[.int .i64 1, .int .i64 1, .int .i64 1, .slice (some ⟨wa.heap.size, 0, none⟩) 513 513, .int .i64 0, .int .i64 0, .int .i64 0, .slice (some ⟨wa.heap.size, 0, none⟩) 513 513, .int .i64 9, .int .i64 1, .int .i64 1, .slice none 0 0, .int .i64 1, .int .i64 0, .int .i64 1, .slice none 0 0, .int .i64 1, .int .i64 1, .int .i64 0, .slice none 0 0, .int .i64 1, .int .i64 1, .int .i64 9007199254740992, .slice none 0 0, .int .i64 1, .int .i64 1, .int .i64 1, .slice (some ⟨wa.heap.size, 0, none⟩) 512 513] 24))).alloc (.cells #[.int .i64 5, .int .i64 5, .int .i64 2, .int .i64 2, .int .i64 2, .int .i64 2, .int .i64 0] 26)
      have HLV := hid ((hL0.keep0 f2).keep0 f3)
      have HFB := hid (hB1.keep f3 (fun h => h))
      have HEB := hid hB2
      have HFB2 := hid (((HFA.out.trans f1).trans f2).trans f3)
      simp only [World.size_alloc] at HFB HEB
      clear hL0 f1 f2 f3 hB1 hB2 HFA HZV
      generalize (((wa.alloc (.cells ZC 5)).alloc (.cells #[.int .i64 1, .int .i64 1, .int .i64 1, .slice (some ⟨wa.heap.size, 0, none⟩) 513 513, .int .i64 0, .int .i64 0, .int .i64 0, .slice (some ⟨wa.heap.size, 0, none⟩) 513 513, .int .i64 9, .int .i64 1, .int .i64 1, .slice none 0 0, .int .i64 1, .int .i64 0, .int .i64 1, .slice none 0 0, .int .i64 1, .int .i64 1, .int .i64 0, .slice none 0 0, .int .i64 1, .int .i64 1, .int .i64 9007199254740992, .slice none 0 0, .int .i64 1, .int .i64 1, .int .i64 1, .slice (some ⟨wa.heap.size, 0, none⟩) 512 513] 24)).alloc (.cells #[.int .i64 5, .int .i64 5, .int .i64 2, .int .i64 2, .int .i64 2, .int .i64 2, .int .i64 0] 26)) = wb at *
      generalize wa.heap.size + 1 + 1 = eb at *
      generalize wa.heap.size + 1 = fb at *
      generalize wa.heap.size = lb at *
      have HLV2 : Hid (Vw .u8 wb (.slice (some ⟨lb, 0, none⟩) 512 513) (List.replicate 512 0)) := hid (by have h := HLV.out.take (m := 512) (by simp); rwa [List.take_replicate] at h)
      go_loopw [8] (fun i wr => ∃ k : Nat, k ≤ 7 ∧ i = .int .i64 k ∧ Fr (fun _ => False) wb wr) (fun i _ => 7 - (intOf i).toNat)
      case atStart => exact ⟨0, by omega, rfl, Fr.refl _ _⟩
      case round =>
        obtain ⟨k, hk, rfl, hf⟩ := hrel
        have HF := hid hf
        clear hf
        by_cases hk8 : k < 7
        · obtain ⟨a, b, c, e, uo, un, uc, bs, c0, c1, c2, c3, c4, huv, hub, hpk⟩ : ∃ (a b c e : Int) (uo : Option Addr) (un uc : Nat) (bs : List Int), wr.cell? ⟨fb, k * 4, none⟩ = some (.int .i64 a) ∧ wr.cell? ⟨fb, k * 4 + 1, none⟩ = some (.int .i64 b) ∧ wr.cell? ⟨fb, k * 4 + 2, none⟩ = some (.int .i64 c) ∧ wr.cell? ⟨fb, k * 4 + 3, none⟩ = some (.slice uo un uc) ∧ wr.cell? ⟨eb, k, none⟩ = some (.int .i64 e) ∧ Vw .u8 wr (.slice uo un uc) bs ∧ AllB bs ∧ (packR a b c bs).2 = e := by
            have h := HFB.out.keep HF.out (fun h => h)
            have g := HEB.out.keep HF.out (fun h => h)
            have v := HLV.out.keep0 HF.out
            have v2 := HLV2.out.keep0 HF.out
            rcases (show k = 0 ∨ k = 1 ∨ k = 2 ∨ k = 3 ∨ k = 4 ∨ k = 5 ∨ k = 6 by omega) with rfl | rfl | rfl | rfl | rfl | rfl | rfl
            · exact ⟨1, 1, 1, 5, some ⟨lb, 0, none⟩, 513, 513, List.replicate 513 0, h.cell 0 rfl, h.cell 1 rfl, h.cell 2 rfl, h.cell 3 rfl, g.cell 0 rfl, v, allB_zero _, by unfold packR; rw [if_pos (by simp)]⟩
            · exact ⟨0, 0, 0, 5, some ⟨lb, 0, none⟩, 513, 513, List.replicate 513 0, h.cell 4 rfl, h.cell 5 rfl, h.cell 6 rfl, h.cell 7 rfl, g.cell 1 rfl, v, allB_zero _, by unfold packR; rw [if_pos (by simp)]⟩
            · exact ⟨9, 1, 1, 2, none, 0, 0, [], h.cell 8 rfl, h.cell 9 rfl, h.cell 10 rfl, h.cell 11 rfl, g.cell 2 rfl, Vw.nil _ _, AllB.nil, by decide⟩
            · exact ⟨1, 0, 1, 2, none, 0, 0, [], h.cell 12 rfl, h.cell 13 rfl, h.cell 14 rfl, h.cell 15 rfl, g.cell 3 rfl, Vw.nil _ _, AllB.nil, by decide⟩
            · exact ⟨1, 1, 0, 2, none, 0, 0, [], h.cell 16 rfl, h.cell 17 rfl, h.cell 18 rfl, h.cell 19 rfl, g.cell 4 rfl, Vw.nil _ _, AllB.nil, by decide⟩
            · exact ⟨1, 1, 9007199254740992, 2, none, 0, 0, [], h.cell 20 rfl, h.cell 21 rfl, h.cell 22 rfl, h.cell 23 rfl, g.cell 5 rfl, Vw.nil _ _, AllB.nil, by decide⟩
            · exact ⟨1, 1, 1, 0, some ⟨lb, 0, none⟩, 512, 513, List.replicate 512 0, h.cell 24 rfl, h.cell 25 rfl, h.cell 26 rfl, h.cell 27 rfl, g.cell 6 rfl, v2, allB_zero _, by unfold packR; rw [if_neg (by simp), if_pos (by decide)]⟩
          have HK8 := hid hk8
          have HPK := hid (fun W (h : Vw .u8 W (.slice uo un uc) bs) => pack_tw a b c (.slice uo un uc) bs W h hub)
          have HUV := hid huv
          have HJ9 : Hid (wrap64 ((k : Int) + 1) = ((k + 1 : Nat) : Int)) := hid (by rw [w64d (by omega) (by omega)]; omega)
          have k0 : (0 : Int) ≤ (k : Int) := by omega
          have k1 : (k : Int) < 7 := by omega
          have C4 : Hid (∀ W, Fr (fun _ => False) wr W → W.cell? ⟨eb, k, none⟩ = some (.int .i64 e)) := hid (fun W f => cell_fr f c4)
          generalize packR a b c bs = pr at *
          obtain ⟨P1, P2⟩ := pr
          simp only at hpk
          subst hpk
          have hee : (P2 != P2) = false := by simp
          clear hk hk8 huv hub c4
          go_wp2_with fail
          clear c0 c1 c2 c3
          with_reducible refine (HPK.out _ HUV.out).mono ?_
          rintro ee w2 ⟨v2, rfl, r2, f2, a2⟩
          obtain ⟨o2, n2, rfl⟩ := row_shape r2
          have c4 := C4.out w2 f2
          have HF2 := hid (HF.out.trans f2)
          clear f2 r2 a2 HPK HUV C4
          go_wp2_with fail
          clear c4 hee k0 k1
          go_roundw
          case rel =>
            (repeat apply Exists.intro)
            refine ⟨⟨k + 1, by have := HK8.out; omega, by first | exact congrArg (Value.int .i64) HJ9.out | exact congrArg (Value.int .i64) (by omega), HF2.out⟩, ?_⟩
            simp only [Act.mk.injEq, Array.mk.injEq, List.cons.injEq, true_and, and_true]
            repeat' first | exact rfl | exact congrArg (Value.int .i64) HJ9.out | exact congrArg (Value.int .i64) HJ9.out.symm | apply And.intro
          case measure => (have := HK8.out; (try rw [HJ9.out]); simp [intOf]; omega)
        · have hk' : k = 7 := by omega
          subst hk'
          have HLN := hid (HLV.out.keep0 HF.out)
          have HFC := hid (HFB2.out.trans HF.out)
          clear hk hk8 HFB HEB HLV HLV2 HFB2 HF
          generalize wr = w0a at *
          go_wp2_with fail
          have HV0 : Hid (Vw .u8 ((w0a.alloc (.cells #[.int .u8 1, .int .u8 2, .int .u8 3] 5)).alloc (.cells #[.int .u8 1, .int .u8 2, .int .u8 3, .int .u8 4] 5)) (.slice (some ⟨w0a.heap.size, 0, none⟩) 3 3) [1, 2, 3]) := hid ((vw_lit w0a [1, 2, 3] #[.int .u8 1, .int .u8 2, .int .u8 3] 3 rfl rfl (by decide)).keep0 ((Fr.refl _ _).alloc _))
          have HV1 : Hid (Vw .u8 ((w0a.alloc (.cells #[.int .u8 1, .int .u8 2, .int .u8 3] 5)).alloc (.cells #[.int .u8 1, .int .u8 2, .int .u8 3, .int .u8 4] 5)) (.slice (some ⟨w0a.heap.size + 1, 0, none⟩) 4 4) [1, 2, 3, 4]) := hid (by have h := vw_lit (w0a.alloc (.cells #[.int .u8 1, .int .u8 2, .int .u8 3] 5)) [1, 2, 3, 4] #[.int .u8 1, .int .u8 2, .int .u8 3, .int .u8 4] 4 rfl rfl (by decide); rw [World.size_alloc] at h; exact h)
          have HFD := hid ((HFC.out.alloc (.cells #[.int .u8 1, .int .u8 2, .int .u8 3] 5)).alloc (.cells #[.int .u8 1, .int .u8 2, .int .u8 3, .int .u8 4] 5))
          have HLN1 := hid ((HLN.out.keep0 ((Fr.refl _ _).alloc (.cells #[.int .u8 1, .int .u8 2, .int .u8 3] 5))).keep0 ((Fr.refl _ _).alloc (.cells #[.int .u8 1, .int .u8 2, .int .u8 3, .int .u8 4] 5)))
          clear HLN HFC
          generalize ((w0a.alloc (.cells #[.int .u8 1, .int .u8 2, .int .u8 3] 5)).alloc (.cells #[.int .u8 1, .int .u8 2, .int .u8 3, .int .u8 4] 5)) = w2a at *
          generalize w0a.heap.size + 1 = g1 at *
          generalize w0a.heap.size = g0 at *
          with_reducible refine (seal_any (.slice none 0 0) [] w2a (Vw.nil _ _) AllB.nil (by decide)).mono ?_
          rintro e s2 ⟨v2, rfl, r2, f2, _⟩
          rw [show ([] : List Int).length + 4 = 4 from rfl] at r2
          obtain ⟨o2, c2, rfl⟩ := row_shape r2
          have HV2 : Hid (Vw .u8 s2 (.slice o2 4 c2) (sealed [])) := hid (Vw.of_row r2)
          have HE2 := hid (f2)
          clear r2 f2
          go_wp2_with fail
          with_reducible refine (seal_any (.slice (some ⟨s2.heap.size, 0, none⟩) 2 2) [1, 2] _ (vw_lit s2 [1, 2] #[.int .u8 1, .int .u8 2] 2 rfl rfl (by decide)) (allB_of (by decide)) (by decide)).mono ?_
          rintro e s3 ⟨v3, rfl, r3, f3, _⟩
          have g23 : Fr (fun _ => False) s2 s3 := ((Fr.refl (fun _ => False) s2).alloc (.cells #[.int .u8 1, .int .u8 2] 5)).trans f3
          rw [show ([1, 2] : List Int).length + 4 = 6 from rfl] at r3
          obtain ⟨o3, c3, rfl⟩ := row_shape r3
          have HV3 : Hid (Vw .u8 s3 (.slice o3 6 c3) (sealed [1, 2])) := hid (Vw.of_row r3)
          have HE3 := hid (g23)
          clear r3 f3 g23
          go_wp2_with fail
          with_reducible refine (seal_any (.slice (some ⟨s3.heap.size, 0, none⟩) 4 4) [1, 2, 3, 1] _ (vw_lit s3 [1, 2, 3, 1] #[.int .u8 1, .int .u8 2, .int .u8 3, .int .u8 1] 4 rfl rfl (by decide)) (allB_of (by decide)) (by decide)).mono ?_
          rintro e s4 ⟨v4, rfl, r4, f4, _⟩
          have g24 : Fr (fun _ => False) s3 s4 := ((Fr.refl (fun _ => False) s3).alloc (.cells #[.int .u8 1, .int .u8 2, .int .u8 3, .int .u8 1] 5)).trans f4
          rw [show ([1, 2, 3, 1] : List Int).length + 4 = 8 from rfl] at r4
          obtain ⟨o4, c4, rfl⟩ := row_shape r4
          have HV4 : Hid (Vw .u8 s4 (.slice o4 8 c4) (sealed [1, 2, 3, 1])) := hid (Vw.of_row r4)
          have HE4 := hid (g24)
          clear r4 f4 g24
          go_wp2_with fail
          with_reducible refine (seal_any (.slice (some ⟨s4.heap.size, 0, none⟩) 4 4) [1, 2, 3, 0] _ (vw_lit s4 [1, 2, 3, 0] #[.int .u8 1, .int .u8 2, .int .u8 3, .int .u8 0] 4 rfl rfl (by decide)) (allB_of (by decide)) (by decide)).mono ?_
          rintro e s5 ⟨v5, rfl, r5, f5, _⟩
          have g25 : Fr (fun _ => False) s4 s5 := ((Fr.refl (fun _ => False) s4).alloc (.cells #[.int .u8 1, .int .u8 2, .int .u8 3, .int .u8 0] 5)).trans f5
          rw [show ([1, 2, 3, 0] : List Int).length + 4 = 8 from rfl] at r5
          obtain ⟨o5, c5, rfl⟩ := row_shape r5
          have HV5 : Hid (Vw .u8 s5 (.slice o5 8 c5) (sealed [1, 2, 3, 0])) := hid (Vw.of_row r5)
          have HE5 := hid (g25)
          clear r5 f5 g25
          go_wp2_with fail
          with_reducible refine (seal_any (.slice (some ⟨s5.heap.size, 0, none⟩) 5 5) [1, 2, 3, 0, 0] _ (vw_lit s5 [1, 2, 3, 0, 0] #[.int .u8 1, .int .u8 2, .int .u8 3, .int .u8 0, .int .u8 0] 5 rfl rfl (by decide)) (allB_of (by decide)) (by decide)).mono ?_
          rintro e s6 ⟨v6, rfl, r6, f6, _⟩
          have g26 : Fr (fun _ => False) s5 s6 := ((Fr.refl (fun _ => False) s5).alloc (.cells #[.int .u8 1, .int .u8 2, .int .u8 3, .int .u8 0, .int .u8 0] 5)).trans f6
          rw [show ([1, 2, 3, 0, 0] : List Int).length + 4 = 9 from rfl] at r6
          obtain ⟨o6, c6, rfl⟩ := row_shape r6
          have HV6 : Hid (Vw .u8 s6 (.slice o6 9 c6) (sealed [1, 2, 3, 0, 0])) := hid (Vw.of_row r6)
          have HE6 := hid (g26)
          clear r6 f6 g26
          go_wp2_with fail
          with_reducible refine (seal_any (.slice (some ⟨s6.heap.size, 0, none⟩) 4 4) [0, 2, 3, 0] _ (vw_lit s6 [0, 2, 3, 0] #[.int .u8 0, .int .u8 2, .int .u8 3, .int .u8 0] 4 rfl rfl (by decide)) (allB_of (by decide)) (by decide)).mono ?_
          rintro e s7 ⟨v7, rfl, r7, f7, _⟩
          have g27 : Fr (fun _ => False) s6 s7 := ((Fr.refl (fun _ => False) s6).alloc (.cells #[.int .u8 0, .int .u8 2, .int .u8 3, .int .u8 0] 5)).trans f7
          rw [show ([0, 2, 3, 0] : List Int).length + 4 = 8 from rfl] at r7
          obtain ⟨o7, c7, rfl⟩ := row_shape r7
          have HV7 : Hid (Vw .u8 s7 (.slice o7 8 c7) (sealed [0, 2, 3, 0])) := hid (Vw.of_row r7)
          have HE7 := hid (g27)
          clear r7 f7 g27
          go_wp2_with fail
          with_reducible refine (seal_any (.slice (some ⟨s7.heap.size, 0, none⟩) 4 4) [9, 2, 3, 0] _ (vw_lit s7 [9, 2, 3, 0] #[.int .u8 9, .int .u8 2, .int .u8 3, .int .u8 0] 4 rfl rfl (by decide)) (allB_of (by decide)) (by decide)).mono ?_
          rintro e s8 ⟨v8, rfl, r8, f8, _⟩
          have g28 : Fr (fun _ => False) s7 s8 := ((Fr.refl (fun _ => False) s7).alloc (.cells #[.int .u8 9, .int .u8 2, .int .u8 3, .int .u8 0] 5)).trans f8
          rw [show ([9, 2, 3, 0] : List Int).length + 4 = 8 from rfl] at r8
          obtain ⟨o8, c8, rfl⟩ := row_shape r8
          have HV8 : Hid (Vw .u8 s8 (.slice o8 8 c8) (sealed [9, 2, 3, 0])) := hid (Vw.of_row r8)
          have HE8 := hid (g28)
          clear r8 f8 g28
          go_wp2_with fail
          with_reducible refine (seal_any (.slice (some ⟨s8.heap.size, 0, none⟩) 4 4) [1, 0, 3, 0] _ (vw_lit s8 [1, 0, 3, 0] #[.int .u8 1, .int .u8 0, .int .u8 3, .int .u8 0] 4 rfl rfl (by decide)) (allB_of (by decide)) (by decide)).mono ?_
          rintro e s9 ⟨v9, rfl, r9, f9, _⟩
          have g29 : Fr (fun _ => False) s8 s9 := ((Fr.refl (fun _ => False) s8).alloc (.cells #[.int .u8 1, .int .u8 0, .int .u8 3, .int .u8 0] 5)).trans f9
          rw [show ([1, 0, 3, 0] : List Int).length + 4 = 8 from rfl] at r9
          obtain ⟨o9, c9, rfl⟩ := row_shape r9
          have HV9 : Hid (Vw .u8 s9 (.slice o9 8 c9) (sealed [1, 0, 3, 0])) := hid (Vw.of_row r9)
          have HE9 := hid (g29)
          clear r9 f9 g29
          go_wp2_with fail
          with_reducible refine (seal_any (.slice (some ⟨s9.heap.size, 0, none⟩) 4 4) [1, 2, 0, 0] _ (vw_lit s9 [1, 2, 0, 0] #[.int .u8 1, .int .u8 2, .int .u8 0, .int .u8 0] 4 rfl rfl (by decide)) (allB_of (by decide)) (by decide)).mono ?_
          rintro e s10 ⟨v10, rfl, r10, f10, _⟩
          have g30 : Fr (fun _ => False) s9 s10 := ((Fr.refl (fun _ => False) s9).alloc (.cells #[.int .u8 1, .int .u8 2, .int .u8 0, .int .u8 0] 5)).trans f10
          rw [show ([1, 2, 0, 0] : List Int).length + 4 = 8 from rfl] at r10
          obtain ⟨o10, c10, rfl⟩ := row_shape r10
          have HV10 : Hid (Vw .u8 s10 (.slice o10 8 c10) (sealed [1, 2, 0, 0])) := hid (Vw.of_row r10)
          have HE10 := hid (g30)
          clear r10 f10 g30
          go_wp2_with fail
          with_reducible refine (seal_any (.slice (some ⟨s10.heap.size, 0, none⟩) 5 5) [1, 128, 0, 3, 0] _ (vw_lit s10 [1, 128, 0, 3, 0] #[.int .u8 1, .int .u8 128, .int .u8 0, .int .u8 3, .int .u8 0] 5 rfl rfl (by decide)) (allB_of (by decide)) (by decide)).mono ?_
          rintro e s11 ⟨v11, rfl, r11, f11, _⟩
          have g31 : Fr (fun _ => False) s10 s11 := ((Fr.refl (fun _ => False) s10).alloc (.cells #[.int .u8 1, .int .u8 128, .int .u8 0, .int .u8 3, .int .u8 0] 5)).trans f11
          rw [show ([1, 128, 0, 3, 0] : List Int).length + 4 = 9 from rfl] at r11
          obtain ⟨o11, c11, rfl⟩ := row_shape r11
          have HV11 : Hid (Vw .u8 s11 (.slice o11 9 c11) (sealed [1, 128, 0, 3, 0])) := hid (Vw.of_row r11)
          have HE11 := hid (g31)
          clear r11 f11 g31
          go_wp2_with fail
          with_reducible refine (seal_any (.slice (some ⟨s11.heap.size, 0, none⟩) 5 5) [1, 2, 3, 129, 4] _ (vw_lit s11 [1, 2, 3, 129, 4] #[.int .u8 1, .int .u8 2, .int .u8 3, .int .u8 129, .int .u8 4] 5 rfl rfl (by decide)) (allB_of (by decide)) (by decide)).mono ?_
          rintro e s12 ⟨v12, rfl, r12, f12, _⟩
          have g32 : Fr (fun _ => False) s11 s12 := ((Fr.refl (fun _ => False) s11).alloc (.cells #[.int .u8 1, .int .u8 2, .int .u8 3, .int .u8 129, .int .u8 4] 5)).trans f12
          rw [show ([1, 2, 3, 129, 4] : List Int).length + 4 = 9 from rfl] at r12
          obtain ⟨o12, c12, rfl⟩ := row_shape r12
          have HV12 : Hid (Vw .u8 s12 (.slice o12 9 c12) (sealed [1, 2, 3, 129, 4])) := hid (Vw.of_row r12)
          have HE12 := hid (g32)
          clear r12 f12 g32
          have K12 := Fr.refl (fun _ => False) s12
          have K11 := HE12.out.trans K12
          have K10 := HE11.out.trans K11
          have K9 := HE10.out.trans K10
          have K8 := HE9.out.trans K9
          have K7 := HE8.out.trans K8
          have K6 := HE7.out.trans K7
          have K5 := HE6.out.trans K6
          have K4 := HE5.out.trans K5
          have K3 := HE4.out.trans K4
          have K2 := HE3.out.trans K3
          have K1 := HE2.out.trans K2
          have q1 := (Fr.refl (fun _ => False) s12).alloc (.cells #[.slice (some ⟨g0, 0, none⟩) 3 3, .slice (some ⟨g1, 0, none⟩) 4 4, .slice o2 4 c2, .slice o3 6 c3, .slice o4 8 c4, .slice o5 8 c5, .slice o6 9 c6, .slice o7 8 c7, .slice o8 8 c8, .slice o9 8 c9, .slice o10 8 c10, .slice o11 9 c11, .slice o12 9 c12] 22)
          have q2 := (Fr.refl (fun _ => False) (s12.alloc (.cells #[.slice (some ⟨g0, 0, none⟩) 3 3, .slice (some ⟨g1, 0, none⟩) 4 4, .slice o2 4 c2, .slice o3 6 c3, .slice o4 8 c4, .slice o5 8 c5, .slice o6 9 c6, .slice o7 8 c7, .slice o8 8 c8, .slice o9 8 c9, .slice o10 8 c10, .slice o11 9 c11, .slice o12 9 c12] 22))).alloc (.cells #[.int .i64 3, .int .i64 60, .int .i64 3, .int .i64 3, .int .i64 3, .int .i64 0, .int .i64 4, .int .i64 4, .int .i64 4, .int .i64 4, .int .i64 4, .int .i64 4, .int .i64 5] 26)
          have q := q1.trans q2
          have HG := hid ((Blk.new s12 #[.slice (some ⟨g0, 0, none⟩) 3 3, .slice (some ⟨g1, 0, none⟩) 4 4, .slice o2 4 c2, .slice o3 6 c3, .slice o4 8 c4, .slice o5 8 c5, .slice o6 9 c6, .slice o7 8 c7, .slice o8 8 c8, .slice o9 8 c9, .slice o10 8 c10, .slice o11 9 c11, .slice o12 9 c12] 22).keep q2 (fun h => h))
          have HW := hid (Blk.new (s12.alloc (.cells #[.slice (some ⟨g0, 0, none⟩) 3 3, .slice (some ⟨g1, 0, none⟩) 4 4, .slice o2 4 c2, .slice o3 6 c3, .slice o4 8 c4, .slice o5 8 c5, .slice o6 9 c6, .slice o7 8 c7, .slice o8 8 c8, .slice o9 8 c9, .slice o10 8 c10, .slice o11 9 c11, .slice o12 9 c12] 22)) #[.int .i64 3, .int .i64 60, .int .i64 3, .int .i64 3, .int .i64 3, .int .i64 0, .int .i64 4, .int .i64 4, .int .i64 4, .int .i64 4, .int .i64 4, .int .i64 4, .int .i64 5] 26)
          rw [World.size_alloc] at HW
          have HX0 := hid (HV0.out.keep0 (K1.trans q))
          have HX1 := hid (HV1.out.keep0 (K1.trans q))
          have HX2 := hid (HV2.out.keep0 (K2.trans q))
          have HX3 := hid (HV3.out.keep0 (K3.trans q))
          have HX4 := hid (HV4.out.keep0 (K4.trans q))
          have HX5 := hid (HV5.out.keep0 (K5.trans q))
          have HX6 := hid (HV6.out.keep0 (K6.trans q))
          have HX7 := hid (HV7.out.keep0 (K7.trans q))
          have HX8 := hid (HV8.out.keep0 (K8.trans q))
          have HX9 := hid (HV9.out.keep0 (K9.trans q))
          have HX10 := hid (HV10.out.keep0 (K10.trans q))
          have HX11 := hid (HV11.out.keep0 (K11.trans q))
          have HX12 := hid (HV12.out.keep0 (K12.trans q))
          have HFE := hid (HFD.out.trans (K1.trans q))
          have HLN2 := hid (HLN1.out.keep0 (K1.trans q))
          go_wp2_with fail
          clear HV0 HV1 HV2 HV3 HV4 HV5 HV6 HV7 HV8 HV9 HV10 HV11 HV12 HE2 HE3 HE4 HE5 HE6 HE7 HE8 HE9 HE10 HE11 HE12 K1 K2 K3 K4 K5 K6 K7 K8 K9 K10 K11 K12 q q1 q2 HFD HLN1
          generalize ((s12.alloc (.cells #[.slice (some ⟨g0, 0, none⟩) 3 3, .slice (some ⟨g1, 0, none⟩) 4 4, .slice o2 4 c2, .slice o3 6 c3, .slice o4 8 c4, .slice o5 8 c5, .slice o6 9 c6, .slice o7 8 c7, .slice o8 8 c8, .slice o9 8 c9, .slice o10 8 c10, .slice o11 9 c11, .slice o12 9 c12] 22)).alloc (.cells #[.int .i64 3, .int .i64 60, .int .i64 3, .int .i64 3, .int .i64 3, .int .i64 0, .int .i64 4, .int .i64 4, .int .i64 4, .int .i64 4, .int .i64 4, .int .i64 4, .int .i64 5] 26)) = wg at *
          generalize s12.heap.size + 1 = hb at *
          generalize s12.heap.size = gb at *
          go_loopw [13] (fun i wr => ∃ k : Nat, k ≤ 13 ∧ i = .int .i64 k ∧ Fr (fun _ => False) wg wr) (fun i _ => 13 - (intOf i).toNat)
          case atStart => exact ⟨0, by omega, rfl, Fr.refl _ _⟩
          case round =>
            obtain ⟨k, hk, rfl, hf⟩ := hrel
            have HF := hid hf
            clear hf
            by_cases hk8 : k < 13
            · obtain ⟨uo, un, uc, zs, e, c0, c4, huv, hub, hul, hop⟩ : ∃ (uo : Option Addr) (un uc : Nat) (zs : List Int) (e : Int), wr.cell? ⟨gb, k, none⟩ = some (.slice uo un uc) ∧ wr.cell? ⟨hb, k, none⟩ = some (.int .i64 e) ∧ Vw .u8 wr (.slice uo un uc) zs ∧ AllB zs ∧ zs.length ≤ 100 ∧ (openF zs).er = e := by
                have h := HG.out.keep HF.out (fun h => h)
                have g := HW.out.keep HF.out (fun h => h)
                rcases (show k = 0 ∨ k = 1 ∨ k = 2 ∨ k = 3 ∨ k = 4 ∨ k = 5 ∨ k = 6 ∨ k = 7 ∨ k = 8 ∨ k = 9 ∨ k = 10 ∨ k = 11 ∨ k = 12 by omega) with rfl | rfl | rfl | rfl | rfl | rfl | rfl | rfl | rfl | rfl | rfl | rfl | rfl
                · exact ⟨(some ⟨g0, 0, none⟩), 3, 3, [1, 2, 3], 3, h.cell 0 rfl, g.cell 0 rfl, HX0.out.keep0 HF.out, allB_of (by decide), by decide, by rw [op_3]; rfl⟩
                · exact ⟨(some ⟨g1, 0, none⟩), 4, 4, [1, 2, 3, 4], 60, h.cell 1 rfl, g.cell 1 rfl, HX1.out.keep0 HF.out, allB_of (by decide), by decide, by rw [op_60]; rfl⟩
                · exact ⟨o2, 4, c2, sealed [], 3, h.cell 2 rfl, g.cell 2 rfl, HX2.out.keep0 HF.out, sealed_byte (allB_of (by decide)), by rw [sealed_len]; decide, congrArg OF.er os_2⟩
                · exact ⟨o3, 6, c3, sealed [1, 2], 3, h.cell 3 rfl, g.cell 3 rfl, HX3.out.keep0 HF.out, sealed_byte (allB_of (by decide)), by rw [sealed_len]; decide, congrArg OF.er os_3⟩
                · exact ⟨o4, 8, c4, sealed [1, 2, 3, 1], 3, h.cell 4 rfl, g.cell 4 rfl, HX4.out.keep0 HF.out, sealed_byte (allB_of (by decide)), by rw [sealed_len]; decide, congrArg OF.er os_4⟩
                · exact ⟨o5, 8, c5, sealed [1, 2, 3, 0], 0, h.cell 5 rfl, g.cell 5 rfl, HX5.out.keep0 HF.out, sealed_byte (allB_of (by decide)), by rw [sealed_len]; decide, congrArg OF.er os_5⟩
                · exact ⟨o6, 9, c6, sealed [1, 2, 3, 0, 0], 4, h.cell 6 rfl, g.cell 6 rfl, HX6.out.keep0 HF.out, sealed_byte (allB_of (by decide)), by rw [sealed_len]; decide, congrArg OF.er os_6⟩
                · exact ⟨o7, 8, c7, sealed [0, 2, 3, 0], 4, h.cell 7 rfl, g.cell 7 rfl, HX7.out.keep0 HF.out, sealed_byte (allB_of (by decide)), by rw [sealed_len]; decide, congrArg OF.er os_7⟩
                · exact ⟨o8, 8, c8, sealed [9, 2, 3, 0], 4, h.cell 8 rfl, g.cell 8 rfl, HX8.out.keep0 HF.out, sealed_byte (allB_of (by decide)), by rw [sealed_len]; decide, congrArg OF.er os_8⟩
                · exact ⟨o9, 8, c9, sealed [1, 0, 3, 0], 4, h.cell 9 rfl, g.cell 9 rfl, HX9.out.keep0 HF.out, sealed_byte (allB_of (by decide)), by rw [sealed_len]; decide, congrArg OF.er os_9⟩
                · exact ⟨o10, 8, c10, sealed [1, 2, 0, 0], 4, h.cell 10 rfl, g.cell 10 rfl, HX10.out.keep0 HF.out, sealed_byte (allB_of (by decide)), by rw [sealed_len]; decide, congrArg OF.er os_10⟩
                · exact ⟨o11, 9, c11, sealed [1, 128, 0, 3, 0], 4, h.cell 11 rfl, g.cell 11 rfl, HX11.out.keep0 HF.out, sealed_byte (allB_of (by decide)), by rw [sealed_len]; decide, congrArg OF.er os_11⟩
                · exact ⟨o12, 9, c12, sealed [1, 2, 3, 129, 4], 5, h.cell 12 rfl, g.cell 12 rfl, HX12.out.keep0 HF.out, sealed_byte (allB_of (by decide)), by rw [sealed_len]; decide, congrArg OF.er os_12⟩
              have HK8 := hid hk8
              have HOP := hid (fun W (h : Vw .u8 W (.slice uo un uc) zs) => open_tw (.slice uo un uc) zs W h hub (by omega))
              have HUV := hid huv
              have HJ9 : Hid (wrap64 ((k : Int) + 1) = ((k + 1 : Nat) : Int)) := hid (by rw [w64d (by omega) (by omega)]; omega)
              have k0 : (0 : Int) ≤ (k : Int) := by omega
              have k1 : (k : Int) < 13 := by omega
              have C4 : Hid (∀ W, Fr (fun _ => False) wr W → W.cell? ⟨hb, k, none⟩ = some (.int .i64 e)) := hid (fun W f => cell_fr f c4)
              generalize openF zs = o at *
              obtain ⟨oa, ob, oc, obs, oer⟩ := o
              simp only at hop
              subst hop
              have hee : (oer != oer) = false := by simp
              clear hk hk8 huv hub hul c4
              go_wp2_with fail
              clear c0
              with_reducible refine (HOP.out _ HUV.out).mono ?_
              rintro ee w2 ⟨v2, rfl, r2, f2, a2⟩
              simp only at r2
              obtain ⟨o2, n2, rfl⟩ := row_shape r2
              have HF2 := hid (HF.out.trans f2)
              have HR2 := hid f2
              clear f2 r2 a2 HOP HUV
              go_wp2_with (refine wpList_new rfl 24 rfl #[.int .i64 0, .int .i64 0, .int .i64 0, .slice none 0 0] zeroFrame ?_)
              intro y w3 hy B3 f3 z3
              have hyw : wr.heap.size ≤ y := by have := HR2.out.size; omega
              clear hy
              go_wp2_with (refine wpList_store_part rfl 24 _ _ rfl aggFrame y 0 rfl B3 (.agg #[.int .i64 oa, .int .i64 ob, .int .i64 oc, .slice o2 obs.length n2]) rfl rfl (one_fr oa ob oc o2 obs.length n2) (by decide) #[.int .i64 oa, .int .i64 ob, .int .i64 oc, .slice o2 obs.length n2] rfl ?_)
              intro w4 B4 f4 z4
              have hf4 : Fr (fun _ => False) wr w4 := (HR2.out.trans f3).intoNew f4 hyw
              have HF4 := hid (HF.out.trans hf4)
              have c4 := C4.out w4 hf4
              clear B4 f4 z4 B3 f3 z3 hf4 HR2 HF2 C4
              go_wp2_with fail
              clear c4 hee k0 k1
              go_roundw
              case rel => exact ⟨k + 1, by have := HK8.out; omega, by first | exact congrArg (Value.int .i64) HJ9.out | exact congrArg (Value.int .i64) (by omega), HF4.out⟩
              case measure => (have := HK8.out; (try rw [HJ9.out]); simp [intOf]; omega)
            · have hk' : k = 13 := by omega
              subst hk'
              have HLZ := hid (HLN2.out.keep0 HF.out)
              have HFG := hid (HFE.out.trans HF.out)
              clear hk hk8 HG HW HF HLN2 HFE HX0 HX1 HX2 HX3 HX4 HX5 HX6 HX7 HX8 HX9 HX10 HX11 HX12
              generalize wr = wt at *
              go_wp2_with fail
              refine (new_1 3 1 3 false wt wt (by decide) (by decide) (by decide) (by decide) (by decide) (Fr.refl _ _)).mono ?_
              rintro ee w1 ⟨p, rfl, t1, f1⟩
              have HT : Hid (T1 (fun _ => False) wt w1 p (S4 0) (fun _ => none)) := hid (t1.less (Y := fun _ => False) (fun _ h => h.elim))
              clear t1 f1
              go_wp2_with fail
              go_loopw [18, 19] (fun o i wr => ∃ (k : Nat) (ov : Int), k ≤ 4 ∧ o = .int .i64 ov ∧ OV ov k ∧ i = .int .i64 k ∧ T1 (fun _ => False) wt wr p (S4 k) (fun _ => none)) (fun _ i _ => 4 - (intOf i).toNat)
              case atStart => exact ⟨0, 0, by omega, rfl, by unfold OV; omega, rfl, HT.out⟩
              case round =>
                obtain ⟨k, ov, hk, rfl, hov, rfl, ht⟩ := hrel
                clear HT
                by_cases hk8 : k < 4
                · obtain ⟨o, d, h1, h2, h3, h4, h5, h6⟩ := s4_step k hk8
                  have ho : o = ov := by unfold OV at hov; omega
                  subst ho
                  obtain ⟨o1, ho1⟩ : ∃ o1 : Int, o1 = o * 10 := ⟨_, rfl⟩
                  obtain ⟨o2, ho2⟩ : ∃ o2 : Int, o2 = o1 + d := ⟨_, rfl⟩
                  have HOV : Hid (OV o2 (k + 1)) := hid (by unfold OV; omega)
                  have hw1 : wrap64 (o * 10) = o1 := by rw [← ho1]; exact w64d (by omega) (by omega)
                  have hw2 : wrap64 (o1 + d) = o2 := by rw [← ho2]; exact w64d (by omega) (by omega)
                  have hw3 : wrap64 o2 = o2 := w64d (by omega) (by omega)
                  have HW3 := hid hw3
                  have HJ9 : Hid (wrap64 ((k : Int) + 1) = ((k + 1 : Nat) : Int)) := hid (by rw [w64d (by omega) (by omega)]; omega)
                  have HK8 := hid hk8
                  have HWR := hid (wrap_1 (.slice none 0 0) [] ht (s4_inv k) (by omega) (Vw.nil _ _) AllB.nil)
                  rw [h5, h6] at HWR
                  generalize (wrapR (S4 k) []).1 = rb at *
                  have k1 : (k : Int) < 4 := by omega
                  clear hk hk8 hov h1 h2 h3 h4 h5 h6 ho1 ho2 ht
                  go_wp2_with fail
                  with_reducible refine HWR.out.mono ?_
                  rintro ee w2 ⟨v2, rfl, r2, a2, t2, f2⟩
                  obtain ⟨lo, lc, rfl⟩ := row_shape r2
                  have HT2 := hid t2
                  clear r2 a2 t2 f2 HWR
                  go_wp2_with fail
                  clear hw1 hw2 hw3 k1
                  go_roundw
                  case rel => exact ⟨k + 1, o2, by have := HK8.out; omega, by first | rfl | exact congrArg (Value.int .i64) HW3.out, HOV.out, by first | exact congrArg (Value.int .i64) HJ9.out | exact congrArg (Value.int .i64) (by omega), HT2.out⟩
                  case measure => (have := HK8.out; (try rw [HJ9.out]); simp [intOf]; omega)
                · have hk' : k = 4 := by omega
                  subst hk'
                  have hov' : ov = 1241 := by unfold OV at hov; omega
                  subst hov'
                  have HT4 := hid ht
                  clear hk hk8 hov ht
                  generalize wr = w4 at *
                  have HWR := hid (wrap_1 (.slice (some ⟨lb, 0, none⟩) 513 513) (List.replicate 513 0) HT4.out (s4_inv 4) (by decide) (HLZ.out.keep0 HT4.out.fr) (allB_zero _))
                  rw [show wrapR (S4 4) (List.replicate 513 0) = ([], 0, 5) from if_pos (by decide), show wrapS (S4 4) (List.replicate 513 0) = S4 4 from if_pos (by decide)] at HWR
                  clear HT4
                  go_wp2_with fail
                  with_reducible refine HWR.out.mono ?_
                  rintro ee w5 ⟨v5, rfl, r5, _, t5, f5⟩
                  have HT5 := hid t5
                  obtain ⟨lo5, lc5, rfl⟩ := row_shape r5
                  clear r5 t5 f5 HWR
                  have HWR := hid (wrap_1 (.slice none 0 0) [] HT5.out (s4_inv 4) (by decide) (Vw.nil _ _) AllB.nil)
                  rw [show (wrapR (S4 4) []).2 = (2, 0) from rfl] at HWR
                  generalize (wrapR (S4 4) []).1 = rb at *
                  generalize (wrapS (S4 4) []) = s5 at *
                  clear HT5
                  go_wp2_with fail
                  with_reducible refine HWR.out.mono ?_
                  rintro ee w6 ⟨v6, rfl, r6, _, t6, f6⟩
                  have HFT := hid t6.fr
                  obtain ⟨lo6, lc6, rfl⟩ := row_shape r6
                  clear r6 t6 f6 HWR
                  go_wp2_with fail
                  refine (new_1 3 1 2 false wt w6 (by decide) (by decide) (by decide) (by decide) (by decide) HFT.out).mono ?_
                  rintro ee w7 ⟨q, rfl, t7, f7⟩
                  have HU : Hid (T1 (fun _ => False) wt w7 q (S5 0) (fun _ => none)) := hid (t7.less (Y := fun _ => False) (fun _ h => h.elim))
                  clear t7 f7 HFT
                  go_wp2_with fail
                  go_loopw [32] (fun i wr => ∃ (j : Nat) (A : HM), j ≤ 10 ∧ i = .int .i64 ((j : Int) + 1) ∧ T1 (fun _ => False) wt wr q (S5 j) A ∧ Seen A 5 1 j ∧ A 6 = none ∧ A 7 = none) (fun i _ => 11 - (intOf i).toNat)
                  case atStart => exact ⟨0, _, by omega, rfl, HU.out, .inl ⟨rfl, rfl⟩, rfl, rfl⟩
                  case round =>
                    obtain ⟨j, A, hj, rfl, ht, hs, ha6, ha7⟩ := hrel
                    clear HU
                    by_cases hj8 : j < 10
                    · obtain ⟨c, hc⟩ : ∃ c : Int, c = (j : Int) + 1 := ⟨_, rfl⟩
                      have HJ9 : Hid (wrap64 (c + 1) = ((j + 1 : Nat) : Int) + 1) := hid (by rw [w64d (by omega) (by omega)]; omega)
                      rw [← hc]
                      have k1 : c ≤ 10 := by omega
                      have hok : okF 5 1 c = true := (okF_iff _ _ _).2 ⟨by decide, by decide, by omega, by omega⟩
                      obtain ⟨g1, g2⟩ := seen_fresh hs (by omega)
                      rw [← hc] at g1 g2
                      have HSN : Hid (Seen (upd A 5 (nextH (A 5) 1 c)) 5 1 ((j + 1 : Nat) : Int)) := hid (by rw [show ((j + 1 : Nat) : Int) = c by omega]; exact g2)
                      have HA6 : Hid (upd A 5 (nextH (A 5) 1 c) 6 = none) := hid (by rw [upd_ne (by decide)]; exact ha6)
                      have HA7 : Hid (upd A 5 (nextH (A 5) 1 c) 7 = none) := hid (by rw [upd_ne (by decide)]; exact ha7)
                      have HCM : Hid (∀ W v, T1 (fun _ => False) wt W q (S5 j) A → Vw .u8 W v (fz 5 1 c []) → Calls Try.prog 23 #[.pointer (some ⟨q, 0, none⟩), .int .i64 0, v] W fun e w' => e = .returned (.int .i64 1) ∧ T1 (fun _ => False) wt w' q (S5 (j + 1)) (upd A 5 (nextH (A 5) 1 c))) := hid (by
                        intro W v h hv
                        have h := comes_fz 0 v 5 1 c [] h (s5_inv j) (by omega) hv AllB.nil hok (by decide) (by decide) (by show (0 : Int) < ((2 : Nat) : Int); decide)
                        rw [g1, show lookF (incS (S5 j) (0 : Int).toNat) = S5 (j + 1) from s5_step j hj8] at h
                        exact h.mono fun e w' ⟨h1, h2, _⟩ => ⟨h1, h2⟩)
                      generalize upd A 5 (nextH (A 5) 1 c) = A' at *
                      have HK8 := hid hj8
                      have HT := hid ht
                      have HC := hid hc
                      have HFR := hid (fun W => frame_l 5 1 c W hok)
                      clear hj hj8 hc hs ha6 ha7 ht hok g1 g2
                      go_wp2_with fail
                      with_reducible refine (HFR.out _).mono ?_
                      rintro ee w8 ⟨ao, n, cap, rfl, v8, f8⟩
                      have HV8 := hid v8
                      have HT8 := hid (HT.out.keep0 f8)
                      clear v8 f8 HT HFR
                      go_wp2_with fail
                      with_reducible refine (HCM.out _ _ HT8.out HV8.out).mono ?_
                      rintro ee w9 ⟨rfl, t9⟩
                      have HT9 := hid t9
                      clear t9 HT8 HV8 HCM
                      go_wp2_with fail
                      have HFA := hid (faulty_1 HT9.out (s5_inv (j + 1)))
                      rw [show faultyF (S5 (j + 1)) = 0 from rfl] at HFA
                      with_reducible refine HFA.out.mono ?_
                      rintro ee wz ⟨rfl, fz⟩
                      have HTz := hid (HT9.out.keep0 fz)
                      clear HT9 HFA fz
                      go_wp2_with fail
                      clear k1
                      go_roundw
                      case rel => exact ⟨j + 1, A', by have := HK8.out; omega, by first | exact congrArg (Value.int .i64) HJ9.out | exact congrArg (Value.int .i64) (by have := HC.out; omega), HTz.out, HSN.out, HA6.out, HA7.out⟩
                      case measure => (have := HK8.out; have := HC.out; (try rw [HJ9.out]); simp [intOf]; omega)
                    · have hj' : j = 10 := by omega
                      subst hj'
                      obtain ⟨g1, g2⟩ := seen_not hs (by decide)
                      have HA6 : Hid (upd A 5 (nextH (A 5) 1 10) 6 = none) := hid (by rw [upd_ne (by decide)]; exact ha6)
                      have HA7 : Hid (upd A 5 (nextH (A 5) 1 10) 7 = none) := hid (by rw [upd_ne (by decide)]; exact ha7)
                      have HCM : Hid (∀ W v, T1 (fun _ => False) wt W q (S5 10) A → Vw .u8 W v (fz 5 1 10 []) → Calls Try.prog 23 #[.pointer (some ⟨q, 0, none⟩), .int .i64 0, v] W fun e w' => e = .returned (.int .i64 0) ∧ T1 (fun _ => False) wt w' q S6 (upd A 5 (nextH (A 5) 1 10))) := hid (by
                        intro W v h hv
                        have h := comes_fz 0 v 5 1 10 [] h (s5_inv 10) (by decide) hv AllB.nil (by decide) (by decide) (by decide) (by decide)
                        rw [show freshH (A 5) 1 10 = false from g1, show lookF (incS (S5 10) (0 : Int).toNat) = S6 from by kernel_rfl] at h
                        exact h.mono fun e w' ⟨h1, h2, _⟩ => ⟨h1, h2⟩)
                      generalize upd A 5 (nextH (A 5) 1 10) = A5 at *
                      have HT := hid ht
                      clear hj hj8 hs ha6 ha7 ht g1 g2
                      generalize wr = w8 at *
                      go_wp2_with fail
                      with_reducible refine (frame_l 5 1 10 _ (by decide)).mono ?_
                      rintro ee w1 ⟨ao, n, cap, rfl, v1, f1⟩
                      have HV := hid v1
                      have HT1 := hid (HT.out.keep0 f1)
                      clear HT v1 f1
                      have HT := HT1
                      clear HT1
                      go_wp2_with fail
                      with_reducible refine (HCM.out _ _ HT.out HV.out).mono ?_
                      rintro ee w1 ⟨rfl, t1⟩
                      clear HT HV HCM
                      have HT : Hid (T1 (fun _ => False) wt w1 q (K5 0 0 11 false 0 true) A5) := hid t1
                      clear t1
                      go_wp2_with fail
                      with_reducible refine (fau_k 2 HT.out (k5_inv _ _ _ _ _ _ (by decide)) (by kernel_rfl)).mono ?_
                      rintro ee w1 ⟨rfl, t1⟩
                      clear HT
                      have HT := hid t1
                      clear t1
                      generalize w1 = wu at *
                      go_wp2_with fail
                      with_reducible refine (rei_k (s2 := (K5 0 0 11 false 0 true)) 0 80 HT.out (k5_inv _ _ _ _ _ _ (by decide)) (by kernel_rfl) (by kernel_rfl)).mono ?_
                      rintro ee w1 ⟨rfl, t1⟩
                      clear HT
                      have HT := hid t1
                      clear t1
                      generalize w1 = wu at *
                      go_wp2_with fail
                      with_reducible refine (rei_k (s2 := (K5 0 0 11 false 0 true)) 2 2 HT.out (k5_inv _ _ _ _ _ _ (by decide)) (by kernel_rfl) (by kernel_rfl)).mono ?_
                      rintro ee w1 ⟨rfl, t1⟩
                      clear HT
                      have HT := hid t1
                      clear t1
                      generalize w1 = wu at *
                      go_wp2_with fail
                      with_reducible refine (rei_k (s2 := (K5 0 0 11 false 0 true)) (-1) 2 HT.out (k5_inv _ _ _ _ _ _ (by decide)) (by kernel_rfl) (by kernel_rfl)).mono ?_
                      rintro ee w1 ⟨rfl, t1⟩
                      clear HT
                      have HT := hid t1
                      clear t1
                      generalize w1 = wu at *
                      go_wp2_with fail
                      with_reducible refine (wrap_k (s2 := (K5 1 1 11 false 0 true)) 1 HT.out (k5_inv _ _ _ _ _ _ (by decide)) (by kernel_rfl) (by kernel_rfl)).mono ?_
                      rintro ee w1 ⟨ao, n, cap, rfl, t1⟩
                      clear HT
                      have HT := hid t1
                      clear t1
                      generalize w1 = wu at *
                      go_wp2_with fail
                      with_reducible refine (wrap_k (s2 := (K5 2 1 11 false 0 true)) 1 HT.out (k5_inv _ _ _ _ _ _ (by decide)) (by kernel_rfl) (by kernel_rfl)).mono ?_
                      rintro ee w1 ⟨ao, n, cap, rfl, t1⟩
                      clear HT
                      have HT := hid t1
                      clear t1
                      generalize w1 = wu at *
                      go_wp2_with fail
                      with_reducible refine (rei_k (s2 := (K5 2 1 11 false 11 false)) 1 0 HT.out (k5_inv _ _ _ _ _ _ (by decide)) (by kernel_rfl) (by kernel_rfl)).mono ?_
                      rintro ee w1 ⟨rfl, t1⟩
                      clear HT
                      have HT := hid t1
                      clear t1
                      generalize w1 = wu at *
                      go_wp2_with fail
                      with_reducible refine (fau_k 0 HT.out (k5_inv _ _ _ _ _ _ (by decide)) (by kernel_rfl)).mono ?_
                      rintro ee w1 ⟨rfl, t1⟩
                      clear HT
                      have HT := hid t1
                      clear t1
                      generalize w1 = wu at *
                      go_wp2_with fail
                      with_reducible refine (rei_k (s2 := (K5 2 1 11 false 11 false)) 1 80 HT.out (k5_inv _ _ _ _ _ _ (by decide)) (by kernel_rfl) (by kernel_rfl)).mono ?_
                      rintro ee w1 ⟨rfl, t1⟩
                      clear HT
                      have HT := hid t1
                      clear t1
                      generalize w1 = wu at *
                      go_wp2_with fail
                      go_loopw [41] (fun i wr => ∃ (j : Nat) (A : HM), j ≤ 10 ∧ i = .int .i64 j ∧ T1 (fun _ => False) wt wr q (K5 2 1 11 false (11 + (j : Int)) false) A ∧ Seen A 6 1 j ∧ A 7 = none) (fun i _ => 10 - (intOf i).toNat)
                      case atStart => exact ⟨0, _, by omega, rfl, HT.out, .inl ⟨HA6.out, rfl⟩, HA7.out⟩
                      case round =>
                        obtain ⟨j, A, hj, rfl, ht, hs, ha7⟩ := hrel
                        clear HT HA6 HA7
                        by_cases hj8 : j < 10
                        · obtain ⟨c, hc⟩ : ∃ c : Int, c = (j : Int) + 1 := ⟨_, rfl⟩
                          have HJ9 : Hid (wrap64 ((j : Int) + 1) = ((j + 1 : Nat) : Int)) := hid (by rw [w64d (by omega) (by omega)]; omega)
                          have hw : wrap64 (1 + (j : Int)) = c := by rw [w64d (by omega) (by omega)]; omega
                          have k1 : (j : Int) < 10 := by omega
                          have hok : okF 6 1 c = true := (okF_iff _ _ _).2 ⟨by decide, by decide, by omega, by omega⟩
                          obtain ⟨g1, g2⟩ := seen_fresh hs (by omega)
                          rw [← hc] at g1 g2
                          have HSN : Hid (Seen (upd A 6 (nextH (A 6) 1 c)) 6 1 ((j + 1 : Nat) : Int)) := hid (by rw [show ((j + 1 : Nat) : Int) = c by omega]; exact g2)
                          have HA7 : Hid (upd A 6 (nextH (A 6) 1 c) 7 = none) := hid (by rw [upd_ne (by decide)]; exact ha7)
                          have HCM : Hid (∀ W v, T1 (fun _ => False) wt W q (K5 2 1 11 false (11 + (j : Int)) false) A → Vw .u8 W v (fz 6 1 c []) → Calls Try.prog 23 #[.pointer (some ⟨q, 0, none⟩), .int .i64 1, v] W fun e w' => e = .returned (.int .i64 1) ∧ T1 (fun _ => False) wt w' q (K5 2 1 11 false (11 + ((j + 1 : Nat) : Int)) false) (upd A 6 (nextH (A 6) 1 c))) := hid (fun W v h hv => come_k 1 v 6 1 c true h (k5_inv _ _ _ _ _ _ ⟨by decide, by decide, by decide, by omega, rfl⟩) hv hok (by decide) (by show (1 : Int) < ((2 : Nat) : Int); decide) (s7_step j hj8) g1 rfl)
                          generalize upd A 6 (nextH (A 6) 1 c) = A' at *
                          have HK8 := hid hj8
                          have HT := hid ht
                          have HFR : Hid (∀ W, Calls Try.prog 22 #[.int .i64 6, .int .i64 1, .int .i64 (1 + (j : Int)), .slice none 0 0] W fun e w' => ∃ ao n cap, e = .returned (.slice ao n cap) ∧ Vw .u8 w' (.slice ao n cap) (fz 6 1 c []) ∧ Fr (fun _ => False) W w') := hid (fun W => by rw [show 1 + (j : Int) = c by omega]; exact frame_l 6 1 c W hok)
                          clear hj hj8 hc hs ha7 ht hok g1 g2
                          go_wp2_with fail
                          with_reducible refine (HFR.out _).mono ?_
                          rintro ee w8 ⟨ao, n, cap, rfl, v8, f8⟩
                          have HV8 := hid v8
                          have HT8 := hid (HT.out.keep0 f8)
                          clear v8 f8 HT HFR
                          go_wp2_with fail
                          with_reducible refine (HCM.out _ _ HT8.out HV8.out).mono ?_
                          rintro ee w9 ⟨rfl, t9⟩
                          have HT9 := hid t9
                          clear t9 HT8 HV8 HCM
                          go_wp2_with fail
                          clear k1 hw
                          go_roundw
                          case rel => exact ⟨j + 1, A', by have := HK8.out; omega, by first | exact congrArg (Value.int .i64) HJ9.out | exact congrArg (Value.int .i64) (by omega), HT9.out, HSN.out, HA7.out⟩
                          case measure => (have := HK8.out; (try rw [HJ9.out]); simp [intOf]; omega)
                        · have hj' : j = 10 := by omega
                          subst hj'
                          have HT : Hid (T1 (fun _ => False) wt wr q (K5 2 1 11 false 21 false) A) := hid ht
                          have HSN : Hid (Seen A 6 1 10) := hid hs
                          have HA7 := hid ha7
                          clear hj hj8 hs ha7 ht
                          generalize A = A6 at *
                          generalize wr = wu at *
                          go_wp2_with fail
                          with_reducible refine (fau_k 0 HT.out (k5_inv _ _ _ _ _ _ (by decide)) (by kernel_rfl)).mono ?_
                          rintro ee w1 ⟨rfl, t1⟩
                          clear HT
                          have HT := hid t1
                          clear t1
                          generalize w1 = wu at *
                          have HXC := hid (come_x 1 _ [1, 2, 3, 4, 5] (-60) (HT.out.keep0 ((Fr.refl _ _).alloc (.cells #[.int .u8 1, .int .u8 2, .int .u8 3, .int .u8 4, .int .u8 5] 5))) (k5_inv _ _ _ _ _ _ (by decide)) (vw_lit wu [1, 2, 3, 4, 5] #[.int .u8 1, .int .u8 2, .int .u8 3, .int .u8 4, .int .u8 5] 5 rfl rfl (by decide)) (allB_of (by decide)) (by decide) (.inr (by rw [op_60b]; decide)) ((com_err (e := 60) (.inl ⟨by decide, by rw [op_60b]; rfl⟩) (by decide)).trans (w64d (by decide) (by decide))))
                          go_wp2_with fail
                          with_reducible refine HXC.out.mono ?_
                          rintro ee w1 ⟨rfl, t1⟩
                          clear HT HXC
                          have HT := hid t1
                          clear t1
                          generalize w1 = wu at *
                          go_wp2_with fail
                          with_reducible refine (fau_k 0 HT.out (k5_inv _ _ _ _ _ _ (by decide)) (by kernel_rfl)).mono ?_
                          rintro ee w1 ⟨rfl, t1⟩
                          clear HT
                          have HT := hid t1
                          clear t1
                          generalize w1 = wu at *
                          obtain ⟨g1, g2⟩ := seen_fresh (k := 10) HSN.out (by decide)
                          have HG1 : Hid (freshH (A6 6) 1 11 = true) := hid g1
                          have HSN2 : Hid (Seen (upd A6 6 (nextH (A6 6) 1 11)) 6 1 11) := hid g2
                          have HA7b : Hid (upd A6 6 (nextH (A6 6) 1 11) 7 = none) := hid (by rw [upd_ne (by decide)]; exact HA7.out)
                          clear g1 g2 HSN HA7
                          go_wp2_with fail
                          with_reducible refine (frame_l 6 1 11 _ (by decide)).mono ?_
                          rintro ee w1 ⟨ao, n, cap, rfl, v1, f1⟩
                          have HV := hid v1
                          have HT1 := hid (HT.out.keep0 f1)
                          clear HT v1 f1
                          have HT := HT1
                          clear HT1
                          go_wp2_with fail
                          with_reducible refine (come_k (s2 := (K5 2 1 11 true 22 false)) 1 _ 6 1 11 true HT.out (k5_inv _ _ _ _ _ _ (by decide)) HV.out (by decide) (by decide) (by decide) (by kernel_rfl) HG1.out rfl).mono ?_
                          rintro ee w1 ⟨rfl, t1⟩
                          clear HT HV HG1
                          have HT := hid t1
                          clear t1
                          generalize w1 = wu at *
                          generalize upd A6 6 (nextH (A6 6) 1 11) = A7 at *
                          go_wp2_with fail
                          with_reducible refine (fau_k 1 HT.out (k5_inv _ _ _ _ _ _ (by decide)) (by kernel_rfl)).mono ?_
                          rintro ee w1 ⟨rfl, t1⟩
                          clear HT
                          have HT := hid t1
                          clear t1
                          generalize w1 = wu at *
                          go_wp2_with fail
                          with_reducible refine (frame_l 6 1 12 _ (by decide)).mono ?_
                          rintro ee w1 ⟨ao, n, cap, rfl, v1, f1⟩
                          have HV := hid v1
                          have HT1 := hid (HT.out.keep0 f1)
                          clear HT v1 f1
                          have HT := HT1
                          clear HT1
                          have HFB : Hid (AllB (fz 6 1 12 [])) := hid (fz_byte (by decide) (by decide) AllB.nil)
                          have HFL : Hid ((fz 6 1 12 []).length ≤ 600) := hid (by have := @fz_len 6 1 12 [] (by decide); omega)
                          have HXC := hid (come_x 2 _ _ (-2) HT.out (k5_inv _ _ _ _ _ _ (by decide)) HV.out HFB.out HFL.out (.inl (show chkR 2 2 ≠ 0 by decide)) ((com_err (e := 2) (.inr (show chkR 2 2 = 2 by decide)) (by decide)).trans (w64d (by decide) (by decide))))
                          go_wp2_with fail
                          with_reducible refine (HXC.out).mono ?_
                          rintro ee w1 ⟨rfl, t1⟩
                          clear HT HV HFB HFL HXC
                          have HT := hid t1
                          clear t1
                          generalize w1 = wu at *
                          have HXC := hid (come_x (-1) _ [] (-2) HT.out (k5_inv _ _ _ _ _ _ (by decide)) (Vw.nil _ _) AllB.nil (by decide) (.inl (show chkR 2 (-1) ≠ 0 by decide)) ((com_err (e := 2) (.inr (show chkR 2 (-1) = 2 by decide)) (by decide)).trans (w64d (by decide) (by decide))))
                          go_wp2_with fail
                          with_reducible refine (HXC.out).mono ?_
                          rintro ee w1 ⟨rfl, t1⟩
                          clear HT HXC
                          have HT := hid t1
                          clear t1
                          generalize w1 = wu at *
                          have HXC := hid (come_x 0 _ [] (-3) HT.out (k5_inv _ _ _ _ _ _ (by decide)) (Vw.nil _ _) AllB.nil (by decide) (.inr (by rw [op_nil]; decide)) ((com_err (e := 3) (.inl ⟨show chkR 2 0 = 0 by decide, by rw [op_nil]; rfl⟩) (by decide)).trans (w64d (by decide) (by decide))))
                          go_wp2_with fail
                          with_reducible refine (HXC.out).mono ?_
                          rintro ee w1 ⟨rfl, t1⟩
                          clear HT HXC
                          have HT := hid t1
                          clear t1
                          generalize w1 = wu at *
                          obtain ⟨g1, g2⟩ := seen_fresh (k := 11) HSN2.out (by decide)
                          have HG1 : Hid (freshH (A7 6) 1 12 = true) := hid g1
                          have HSN3 : Hid (Seen (upd A7 6 (nextH (A7 6) 1 12)) 6 1 12) := hid g2
                          have HA7 : Hid (upd A7 6 (nextH (A7 6) 1 12) 7 = none) := hid (by rw [upd_ne (by decide)]; exact HA7b.out)
                          clear g1 g2 HSN2 HA7b
                          go_wp2_with fail
                          with_reducible refine (frame_l 6 1 12 _ (by decide)).mono ?_
                          rintro ee w1 ⟨ao, n, cap, rfl, v1, f1⟩
                          have HV := hid v1
                          have HT1 := hid (HT.out.keep0 f1)
                          clear HT v1 f1
                          have HT := HT1
                          clear HT1
                          go_wp2_with fail
                          with_reducible refine (come_k (s2 := (K5 2 1 12 true 22 false)) 0 _ 6 1 12 true HT.out (k5_inv _ _ _ _ _ _ (by decide)) HV.out (by decide) (by decide) (by decide) (by kernel_rfl) HG1.out rfl).mono ?_
                          rintro ee w1 ⟨rfl, t1⟩
                          clear HT HV HG1
                          have HT := hid t1
                          clear t1
                          generalize w1 = wu at *
                          generalize upd A7 6 (nextH (A7 6) 1 12) = A8 at *
                          obtain ⟨L8, hl8⟩ : ∃ L, A8 6 = some (1, L) := by
                            rcases HSN3.out with ⟨_, h⟩ | ⟨L, h, _⟩
                            · exact absurd h (by decide)
                            · exact ⟨L, h⟩
                          have HA6 := hid hl8
                          clear hl8 HSN3
                          go_wp2_with fail
                          with_reducible refine (frame_l 6 3 12 _ (by decide)).mono ?_
                          rintro ee w1 ⟨ao, n, cap, rfl, v1, f1⟩
                          have HV := hid v1
                          have HT1 := hid (HT.out.keep0 f1)
                          clear HT v1 f1
                          have HT := HT1
                          clear HT1
                          have HFF : Hid (freshH (A8 6) 3 12 = true) := hid (by rw [HA6.out]; kernel_rfl)
                          have HB6 : Hid (upd A8 6 (nextH (A8 6) 3 12) 6 = some (3, stepF [] 12)) := hid (by rw [HA6.out, upd_at]; kernel_rfl)
                          have HB7 : Hid (upd A8 6 (nextH (A8 6) 3 12) 7 = none) := hid (by rw [upd_ne (by decide)]; exact HA7.out)
                          clear HA6 HA7
                          go_wp2_with fail
                          with_reducible refine (come_k (s2 := (K5 2 1 13 true 22 false)) 0 _ 6 3 12 true HT.out (k5_inv _ _ _ _ _ _ (by decide)) HV.out (by decide) (by decide) (by decide) (by kernel_rfl) HFF.out rfl).mono ?_
                          rintro ee w1 ⟨rfl, t1⟩
                          clear HT HV HFF
                          have HT := hid t1
                          clear t1
                          generalize w1 = wu at *
                          generalize upd A8 6 (nextH (A8 6) 3 12) = A9 at *
                          have HA6 := HB6
                          have HA7 := HB7
                          clear HB6 HB7
                          go_wp2_with fail
                          with_reducible refine (frame_l 6 3 1 _ (by decide)).mono ?_
                          rintro ee w1 ⟨ao, n, cap, rfl, v1, f1⟩
                          have HV := hid v1
                          have HT1 := hid (HT.out.keep0 f1)
                          clear HT v1 f1
                          have HT := HT1
                          clear HT1
                          have HFF : Hid (freshH (A9 6) 3 1 = true) := hid (by rw [HA6.out]; kernel_rfl)
                          have HB6 : Hid (upd A9 6 (nextH (A9 6) 3 1) 6 = some (3, stepF (stepF [] 12) 1)) := hid (by rw [HA6.out, upd_at]; kernel_rfl)
                          have HB7 : Hid (upd A9 6 (nextH (A9 6) 3 1) 7 = none) := hid (by rw [upd_ne (by decide)]; exact HA7.out)
                          clear HA6 HA7
                          go_wp2_with fail
                          with_reducible refine (come_k (s2 := (K5 2 1 14 true 22 false)) 0 _ 6 3 1 true HT.out (k5_inv _ _ _ _ _ _ (by decide)) HV.out (by decide) (by decide) (by decide) (by kernel_rfl) HFF.out rfl).mono ?_
                          rintro ee w1 ⟨rfl, t1⟩
                          clear HT HV HFF
                          have HT := hid t1
                          clear t1
                          generalize w1 = wu at *
                          generalize upd A9 6 (nextH (A9 6) 3 1) = A10 at *
                          have HA6 := HB6
                          have HA7 := HB7
                          clear HB6 HB7
                          go_wp2_with fail
                          with_reducible refine (frame_l 6 2 99 _ (by decide)).mono ?_
                          rintro ee w1 ⟨ao, n, cap, rfl, v1, f1⟩
                          have HV := hid v1
                          have HT1 := hid (HT.out.keep0 f1)
                          clear HT v1 f1
                          have HT := HT1
                          clear HT1
                          have HFF : Hid (freshH (A10 6) 2 99 = false) := hid (by rw [HA6.out]; kernel_rfl)
                          have HB6 : Hid (upd A10 6 (nextH (A10 6) 2 99) 6 = some (3, stepF (stepF [] 12) 1)) := hid (by rw [HA6.out, upd_at]; kernel_rfl)
                          have HB7 : Hid (upd A10 6 (nextH (A10 6) 2 99) 7 = none) := hid (by rw [upd_ne (by decide)]; exact HA7.out)
                          clear HA6 HA7
                          go_wp2_with fail
                          with_reducible refine (come_k (s2 := (K5 2 1 15 true 22 false)) 0 _ 6 2 99 false HT.out (k5_inv _ _ _ _ _ _ (by decide)) HV.out (by decide) (by decide) (by decide) (by kernel_rfl) HFF.out rfl).mono ?_
                          rintro ee w1 ⟨rfl, t1⟩
                          clear HT HV HFF
                          have HT := hid t1
                          clear t1
                          generalize w1 = wu at *
                          generalize upd A10 6 (nextH (A10 6) 2 99) = A11 at *
                          have HA6 := HB6
                          have HA7 := HB7
                          clear HB6 HB7
                          go_wp2_with fail
                          with_reducible refine (frame_l 6 3 12 _ (by decide)).mono ?_
                          rintro ee w1 ⟨ao, n, cap, rfl, v1, f1⟩
                          have HV := hid v1
                          have HT1 := hid (HT.out.keep0 f1)
                          clear HT v1 f1
                          have HT := HT1
                          clear HT1
                          have HFF : Hid (freshH (A11 6) 3 12 = false) := hid (by rw [HA6.out]; kernel_rfl)
                          have HB6 : Hid (upd A11 6 (nextH (A11 6) 3 12) 6 = some (3, stepF (stepF (stepF [] 12) 1) 12)) := hid (by rw [HA6.out, upd_at]; kernel_rfl)
                          have HB7 : Hid (upd A11 6 (nextH (A11 6) 3 12) 7 = none) := hid (by rw [upd_ne (by decide)]; exact HA7.out)
                          clear HA6 HA7
                          go_wp2_with fail
                          with_reducible refine (come_k (s2 := (K5 2 1 16 true 22 false)) 0 _ 6 3 12 false HT.out (k5_inv _ _ _ _ _ _ (by decide)) HV.out (by decide) (by decide) (by decide) (by kernel_rfl) HFF.out rfl).mono ?_
                          rintro ee w1 ⟨rfl, t1⟩
                          clear HT HV HFF
                          have HT := hid t1
                          clear t1
                          generalize w1 = wu at *
                          generalize upd A11 6 (nextH (A11 6) 3 12) = A12 at *
                          have HA6 := HB6
                          have HA7 := HB7
                          clear HB6 HB7
                          go_wp2_with fail
                          with_reducible refine (frame_l 7 1 12 _ (by decide)).mono ?_
                          rintro ee w1 ⟨ao, n, cap, rfl, v1, f1⟩
                          have HV := hid v1
                          have HT1 := hid (HT.out.keep0 f1)
                          clear HT v1 f1
                          have HT := HT1
                          clear HT1
                          have HFF : Hid (freshH (A12 7) 1 12 = true) := hid (by rw [HA7.out]; kernel_rfl)
                          clear HA6 HA7
                          go_wp2_with fail
                          with_reducible refine (come_k (s2 := (K5 2 1 17 true 22 false)) 0 _ 7 1 12 true HT.out (k5_inv _ _ _ _ _ _ (by decide)) HV.out (by decide) (by decide) (by decide) (by kernel_rfl) HFF.out rfl).mono ?_
                          rintro ee w1 ⟨rfl, t1⟩
                          clear HT HV HFF
                          have HT := hid t1
                          clear t1
                          generalize w1 = wu at *
                          have HFX := hid HT.out.fr
                          clear HT
                          go_wp2_with fail
                          go_loopw [44, 45] (fun nv i wr => ∃ k : Nat, k ≤ 2 ∧ i = .int .i64 k ∧ NoT wr nv ∧ Fr (fun _ => False) wt wr) (fun _ i _ => 2 - (intOf i).toNat)
                          case atStart => exact ⟨0, by omega, rfl, .inl rfl, HFX.out⟩
                          case round =>
                            obtain ⟨k, hk, rfl, hnt, hf⟩ := hrel
                            rename_i nv _
                            have HNT := hid hnt
                            have HF := hid hf
                            clear hnt hf HFX
                            by_cases hk8 : k < 2
                            · have HJ9 : Hid (wrap64 ((k : Int) + 1) = ((k + 1 : Nat) : Int)) := hid (by rw [w64d (by omega) (by omega)]; omega)
                              have k1 : (k : Int) < 2 := by omega
                              have HK8 := hid hk8
                              clear hk hk8
                              go_wp2_with fail
                              with_reducible refine (wrap_no _ HNT.out).mono ?_
                              rintro ee w1 ⟨rfl, rfl⟩
                              go_wp2_with fail
                              with_reducible refine (comes_no _ _ HNT.out).mono ?_
                              rintro ee w1 ⟨rfl, rfl⟩
                              go_wp2_with fail
                              with_reducible refine (faulty_no _ HNT.out).mono ?_
                              rintro ee w1 ⟨rfl, rfl⟩
                              go_wp2_with fail
                              with_reducible refine (reinst_no _ _ HNT.out).mono ?_
                              rintro ee w1 ⟨rfl, rfl⟩
                              go_wp2_with fail
                              exact ⟨⟨k + 1, by have := HK8.out; omega, congrArg (Value.int .i64) (by omega), .inr ⟨_, rfl, (Blk.new wr _ _).cell (i := 5) rfl⟩, HF.out.alloc _⟩, by have := HK8.out; simp [intOf]; omega⟩
                            · have hk' : k = 2 := by omega
                              subst hk'
                              have HFY := hid (HFG.out.trans HF.out)
                              clear hk hk8 HNT HF
                              generalize wr = wz at *
                              go_wp2_with fail
                              with_reducible refine (works_tw _).mono ?_
                              rintro ee w1 ⟨rfl, f1⟩
                              have HFZ := hid (HFY.out.trans f1)
                              clear f1 HFY
                              go_wp2_with fail
                              go_ret
                              exact ⟨rfl, HFZ.out⟩
theorem known_walk (w : World) : Calls Try.prog 9 #[] w fun e w' => e = .returned (.bool true) ∧ Below w.heap.size w w' :=
  (known_any w).mono fun _ _ q => ⟨q.1, q.2.below (Nat.le_refl _) (fun _ h => h.elim)⟩
end Go.Proofs.Ytalbncnhmofgaaa
