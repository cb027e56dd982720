/-
  A WRITER: Fixed. Conditions: as in XWord.
-/
import Derived.Test.YtbgcbcbnlfemiaaWordP
namespace Go.Proofs.Ytbgcbcbnlfemiaa
open Go.RowKit

/-- s bytes, the greatest first. -/
def beL : Nat → Nat → List Int
  | 0, _ => []
  | s + 1, V => ((V / 256 ^ s % 256 : Nat) : Int) :: beL s V
theorem beL_len (s V : Nat) : (beL s V).length = s := by
  induction s with
  | zero => rfl
  | succ s ih => simp [beL, ih]
def wfE (V s : Int) : Int := if s < 1 ∨ 8 < s then 2 else if V < 0 then 9 else if 256 ^ s.toNat ≤ V.toNat then 9 else 0

theorem wfixed_arg {g : Nat} {v : Value} {xs : List Int} (V s : Int) (w : World) (h : WS w g v xs) (hs : s < 1 ∨ 8 < s) :
    Calls Try.prog 27 #[.pointer (some ⟨g, 0, none⟩), .int .i64 V, .int .i64 s] w fun e w' => e = .returned (.int .i64 2) ∧ w = w' := by
  have HN := hid (wnone_any w h)
  clear h
  have hcs : s < 1 ∨ (¬ s < 1 ∧ 8 < s) := by omega
  clear hs
  rcases hcs with h1 | ⟨h1, h2⟩
  all_goals
    go_enter Try.func27, Try.ntmps27
    go_wp2_with fail
    refine HN.out.mono ?_
    rintro e w1 ⟨rfl, rfl⟩
    go_wp2_with fail
    go_ret
    exact ⟨rfl, rfl⟩
theorem wfixed_neg {g : Nat} {v : Value} {xs : List Int} (V s : Int) (w : World) (h : WS w g v xs) (h1 : 1 ≤ s) (h8 : s ≤ 8) (hV : V < 0) :
    Calls Try.prog 27 #[.pointer (some ⟨g, 0, none⟩), .int .i64 V, .int .i64 s] w fun e w' => e = .returned (.int .i64 9) ∧ w = w' := by
  have HN := hid (wnone_any w h)
  clear h
  have s1 : ¬ s < 1 := by omega
  have s2 : ¬ 8 < s := by omega
  go_enter Try.func27, Try.ntmps27
  go_wp2_with fail
  refine HN.out.mono ?_
  rintro e w1 ⟨rfl, rfl⟩
  go_wp2_with fail
  go_ret
  exact ⟨rfl, rfl⟩
theorem wfixed_big {g : Nat} {v : Value} {xs : List Int} (V s : Nat) (w : World) (h : WS w g v xs) (h1 : 1 ≤ s) (h8 : s ≤ 8) (hV : 256 ^ s ≤ V) (hV2 : V ≤ 9223372036854775807) :
    Calls Try.prog 27 #[.pointer (some ⟨g, 0, none⟩), .int .i64 (V : Int), .int .i64 (s : Int)] w fun e w' => e = .returned (.int .i64 9) ∧ w = w' := by
  have HN := hid (wnone_any w h)
  clear h
  have s1 : ¬ (s : Int) < 1 := by omega
  have s2 : ¬ (8 : Int) < (s : Int) := by omega
  have hvw : IntKind.u64.wrap (V : Int) = (V : Int) := by rw [IntKind.wrap_u64]; omega
  have hsw : IntKind.u64.wrap (s : Int) = (s : Int) := by rw [IntKind.wrap_u64]; omega
  have hz : ((V : Int) / 2 ^ (8 * s - 1) / 2 != 0) = true := by
    have h0 : V / 2 ^ (8 * s - 1) / 2 ≠ 0 := by
      rw [Nat.div_div_eq_div_mul]
      have h2 : 2 ^ (8 * s - 1) * 2 = 256 ^ s := by
        rw [show (256 : Nat) = 2 ^ 8 from rfl, ← Nat.pow_mul, ← Nat.pow_succ]; congr 1; omega
      rw [h2]
      have : 0 < V / 256 ^ s := Nat.div_pos hV (Nat.pow_pos (by decide))
      omega
    have h1 : (V : Int) / 2 ^ (8 * s - 1) / 2 = ((V / 2 ^ (8 * s - 1) / 2 : Nat) : Int) := by push_cast; rfl
    rw [h1]
    simp only [bne_iff_ne, ne_eq]
    omega
  have hv0 : ¬ (V : Int) < 0 := by omega
  go_enter Try.func27, Try.ntmps27
  go_wp2_with fail
  refine HN.out.mono ?_
  rintro e w1 ⟨rfl, rfl⟩
  go_wp2_with fail
  go_ret
  exact ⟨rfl, rfl⟩
set_option maxRecDepth 100000 in
set_option maxHeartbeats 1000000 in
theorem wfixed_any {g : Nat} {v : Value} {xs : List Int} (V s : Nat) (w : World) (h : WS w g v xs) (hl : xs.length ≤ 1099511627776) (h1 : 1 ≤ s) (h8 : s ≤ 8) (hV : V < 256 ^ s) (hV2 : V ≤ 9223372036854775807) :
    Calls Try.prog 27 #[.pointer (some ⟨g, 0, none⟩), .int .i64 (V : Int), .int .i64 (s : Int)] w fun e w' => ∃ v', e = .returned (.int .i64 0) ∧ WS w' g v' (xs ++ beL s V) ∧ Fr (fun k => k = g ∨ k ∈ footOf v) w w' ∧ Grows w (footOf v) (footOf v') := by
  obtain ⟨i0, i1, i2, i3, i4⟩ := byteI
  have HN := hid (wnone_any w h)
  have HS := hid h
  clear h
  have s1 : ¬ (s : Int) < 1 := by omega
  have s2 : ¬ (8 : Int) < (s : Int) := by omega
  have hvw : IntKind.u64.wrap (V : Int) = (V : Int) := by rw [IntKind.wrap_u64]; omega
  have hsw : IntKind.u64.wrap (s : Int) = (s : Int) := by rw [IntKind.wrap_u64]; omega
  have hz : ((V : Int) / 2 ^ (8 * s - 1) / 2 != 0) = false := by
    have h0 : V / 2 ^ (8 * s - 1) / 2 = 0 := by
      rw [Nat.div_div_eq_div_mul]
      apply Nat.div_eq_of_lt
      have : 2 ^ (8 * s - 1) * 2 = 256 ^ s := by
        rw [show (256 : Nat) = 2 ^ 8 from rfl, ← Nat.pow_mul, ← Nat.pow_succ]; congr 1; omega
      omega
    have h1 : (V : Int) / 2 ^ (8 * s - 1) / 2 = ((V / 2 ^ (8 * s - 1) / 2 : Nat) : Int) := by push_cast; rfl
    rw [h1, h0]; rfl
  have hv0 : ¬ (V : Int) < 0 := by omega
  go_enter Try.func27, Try.ntmps27
  go_wp2_with fail
  refine HN.out.mono ?_
  rintro e w1 ⟨rfl, rfl⟩
  go_wp2_with fail
  go_loopw [7] (fun i wr => ∃ k : Nat, ∃ v' : Value, ∃ pre : List Int, i = .int .i64 (8 * (k : Int) - 8) ∧ WS wr g v' (xs ++ pre) ∧ pre ++ beL k V = beL s V ∧ pre.length + k = s ∧ Fr (fun k => k = g ∨ k ∈ footOf v) w wr ∧ Grows w (footOf v) (footOf v')) (fun i _ => (intOf i + 8).toNat)
  case atStart =>
    refine ⟨s, v, [], ?_, by simpa using HS.out, rfl, by simp, Fr.refl _ _, Grows.refl _ _⟩
    congr 1; omega
  case round =>
    obtain ⟨k, v', pre, rfl, hws, hbe, hpk, hf, hg⟩ := hrel
    obtain ⟨ys, hys⟩ : ∃ ys, ys = xs ++ pre := ⟨_, rfl⟩
    have HYS : Hid (ys = xs ++ pre) := hid hys
    have hyl : ys.length ≤ 1099511627784 := by rw [hys, List.length_append]; omega
    rw [← hys] at hws
    clear hys
    have HR := hid hws.row
    have HB := hid hws.blk
    have HNE := hid hws.ne
    have HF := hid hf
    have HG := hid hg
    have HBE := hid hbe
    have HPK := hid hpk
    obtain ⟨ao, cap, rfl⟩ := row_shape hws.row
    have c0 := hws.blk.cell 0 rfl
    clear hws hbe hpk hf hg
    cases k with
    | zero =>
      rw [show (8 * ((0 : Nat) : Int) - 8) = -8 from rfl]
      go_wp2_with fail
      go_ret
      refine ⟨_, rfl, ?_, HF.out, HG.out⟩
      have e0 : pre = beL s V := by have := HBE.out; simpa [beL] using this
      rw [← e0, ← HYS.out]
      exact ⟨HB.out, HR.out, HNE.out⟩
    | succ k =>
      have hks : k < 8 := by have := HPK.out; omega
      obtain ⟨j, hj⟩ : ∃ j : Nat, j = 8 * k := ⟨_, rfl⟩
      have hji : 8 * ((k + 1 : Nat) : Int) - 8 = (j : Int) := by omega
      rw [hji]
      have hj56 : j ≤ 56 := by omega
      have hx : (V : Int) / 2 ^ j = ((V / 2 ^ j : Nat) : Int) := by simp
      obtain ⟨Q, hQ⟩ : ∃ Q, Q = V / 2 ^ j := ⟨_, rfl⟩
      have hQV : Q ≤ 9223372036854775807 := by rw [hQ]; exact Nat.le_trans (Nat.div_le_self _ _) hV2
      rw [← hQ] at hx
      have hq : IntKind.u8.wrap (Q : Int) = ((Q % 256 : Nat) : Int) := by simp [IntKind.wrap, IntKind.signed, IntKind.bits]
      have HE : Hid (beL (k + 1) V = ((Q % 256 : Nat) : Int) :: beL k V) := hid (by rw [hQ, hj, show 2 ^ (8 * k) = 256 ^ k by rw [Nat.pow_mul]]; rfl)
      have HJ : Hid (j = 8 * k) := hid hj
      have hjt : ((j : Int)).toNat = j := by simp
      obtain ⟨q, hqq⟩ : ∃ q, q = Q % 256 := ⟨_, rfl⟩
      rw [← hqq] at hq HE
      clear hQ hj hji hqq
      have bb : ∀ o, (wr.alloc o).cell? ⟨g, 0, none⟩ = some (.slice ao ys.length cap) := fun o => (HB.out.keep ((Fr.refl (fun _ => False) wr).alloc o) (fun h => h)).cell 0 rfl
      have ba : ∀ o, (wr.drew.alloc o).cell? ⟨g, 0, none⟩ = some (.slice ao ys.length cap) := fun o => (HB.out.keep ((Fr.refl (fun _ => False) wr).drew.alloc o) (fun h => h)).cell 0 rfl
      have hx6 : Fr (fun _ => False) wr (wr.drew.alloc (.cells #[.int .u8 (q : Int)] 5)) := (Fr.refl _ wr).drew.alloc _
      go_wp2_with fail
      go_region_law (refine step_append_row (by rfl) (.tmp 43) (.tmp 49) 22 (by rfl) 5 i0 (.int .u8 0) 1 1 Try.underlying22 i1 i2 i3 i4 rfl (by decide) (.slice ao ys.length cap) ys.length (ys.map (.int .u8)) (by rfl) (row_keep HR.out hx6 (fun _ _ h => h)) ⟨wr.heap.size, 0, none⟩ 1 1 [.int .u8 (q : Int)] (by rfl) rfl (one_new' wr.drew _ _ _ rfl) (one_int _ _) (by simp only [maxLen]; omega) (by omega) ?_; intro v'' w2 hown hfr hgr _; have hB2 := (HB.out.keep hx6 (fun h => h)).keep hfr HNE.out; obtain ⟨ao2, cap2, rfl⟩ := row_shape hown; have c2 := hB2.cell 0 rfl; have f2 := hB2.free 0)
      all_goals
        have hF2 : Fr (fun k => k = g ∨ k ∈ footOf v) w w2 := (HF.out.step hx6 (fun _ _ h => h.elim)).step hfr (fun k hk hm => by
          rcases HG.out k hm with h | h
          · exact .inr h
          · omega)
        have hz := HF.out.size
        have hz6 := hx6.size
        have hG2 : Grows w (footOf v) (footOf (.slice ao2 (ys.length + 1) cap2)) := fun k hk => by
          rcases hgr k hk with h | h
          · exact HG.out k h
          · have h2 : wr.heap.size ≤ k := Nat.le_trans hx6.size h
            exact .inr (by omega)
        have hne2 : g ∉ footOf (.slice ao2 (ys.length + 1) cap2) := fun hk => by
          rcases hgr g hk with h | h
          · exact HNE.out h
          · have := HB.out.lt
            have h2 : wr.heap.size ≤ g := Nat.le_trans hx6.size h
            omega
        have hf3 : Fr (· = g) w2 (w2.setCell ⟨g, 0, none⟩ (.slice ao2 (ys.length + 1) cap2)) := (Fr.refl _ w2).set1 0 _
        have hW3 : Hid (WS (w2.setCell ⟨g, 0, none⟩ (.slice ao2 (ys.length + 1) cap2)) g (.slice ao2 (ys.length + 1) cap2) (xs ++ (pre ++ [(q : Int)]))) := hid ⟨hB2.set' 0 _ rfl, by
          have := row_keep hown hf3 (fun k hk e => hne2 (by subst e; exact hk))
          have e0 : xs ++ (pre ++ [(q : Int)]) = ys ++ [(q : Int)] := by rw [HYS.out, List.append_assoc]
          rw [e0, List.length_append, List.map_append]
          exact this, hne2⟩
        have HF3 := hid (hF2.step hf3 (fun k _ h => .inl h))
        have HG2 := hid hG2
        clear hown hfr hgr hB2 hF2 hG2 hne2 hf3 hx6 c2 f2 bb ba
        go_wp2_with fail
        go_roundw
        case rel =>
          refine ⟨k, _, pre ++ [(q : Int)], ?_, hW3.out, ?_, ?_, HF3.out, HG2.out⟩
          · have := HJ.out; congr 1; omega
          · have := HBE.out; rw [HE.out] at this; rw [List.append_assoc]; exact this
          · have := HPK.out; simp; omega
        case measure => simp [intOf]; omega
end Go.Proofs.Ytbgcbcbnlfemiaa
