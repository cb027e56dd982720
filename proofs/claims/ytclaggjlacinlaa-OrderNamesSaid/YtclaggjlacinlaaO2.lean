/-
  THE DOCUMENT'S WINDOW: the row of its data, Get. Conditions: the statements' own data.
-/
import Derived.Test.YtclaggjlacinlaaO1
namespace Go.Proofs.Ytclaggjlacinlaa
open Go.RowKit
set_option linter.unusedSimpArgs false

theorem flatD_seg : ∀ {l : List (Int × (Int × Bool))} {j : Nat} {x : Int × (Int × Bool)}, l[j]? = some x → ((flatD l).drop (j * 18)).take 18 = datc x
  | [], _, _, h => by simp at h
  | y :: r, 0, x, h => by
    have : y = x := by simpa using h
    subst this
    rw [Nat.zero_mul, List.drop_zero]
    show (datc y ++ flatD r).take 18 = datc y
    exact List.take_left' rfl
  | y :: r, j + 1, x, h => by
    rw [show (j + 1) * 18 = 18 + j * 18 by omega, ← List.drop_drop]
    show ((((datc y ++ flatD r).drop 18)).drop (j * 18)).take 18 = datc x
    rw [show (datc y ++ flatD r).drop 18 = flatD r from List.drop_left' rfl]
    exact flatD_seg (by simpa using h)
theorem row_elem {w : World} {M : List (Int × (Int × Bool))} {g n cap : Nat} (h : w.ownsRow 0 37 18 (.slice (some ⟨g, 0, none⟩) n cap) M.length (flatD M)) {i : Nat} {m kd : Int} {s : Bool} (hx : M[i]? = some (m, (kd, s))) :
    ∃ cs, Blk w g cs 37 ∧ (cs.toList.drop (i * 18)).take 18 = (#[.int .i64 1, .int .i64 1, .int .i64 m, .int .i64 1, .int .i64 0, .int .i64 kd, .int .i64 1, .int .i64 1, .int .i64 0, .int .i64 0, .int .i64 1, .int .i64 1, .bool s, .int .i64 0, .int .i64 0, .int .i64 0, .int .i64 0, .slice none 0 0] : Array Value).toList := by
  obtain ⟨_, ⟨h1, _⟩ | ⟨g', cap', cur, e, _, hb, hn, hm, hs, ht⟩⟩ := h
  · cases h1
  · injection e with e1 e2 e3
    injection e1 with e1
    injection e1 with e1 _ _
    subst e1
    have hi : i < M.length := by
      rcases Nat.lt_or_ge i M.length with h | h
      · exact h
      · rw [List.getElem?_eq_none h] at hx; cases hx
    refine ⟨cur, hb, ?_⟩
    have h2 := flatD_seg hx
    rw [← ht, List.drop_take, List.take_take, show min 18 (M.length * 18 - i * 18) = 18 by omega] at h2
    exact h2
structure RW (B : Nat) (w : World) (v : Nat) (M : List (Int × (Int × Bool))) : Prop where
  ex : ∃ (row : Value) (top : Int), Blk w v #[row, .int .i64 top] 76 ∧ w.ownsRow 0 37 18 row M.length (flatD M) ∧ Above B (footOf row) ∧ 0 ≤ top ∧ top ≤ 1000
  keys : ∀ x ∈ M, 1 ≤ x.1 ∧ x.1 ≤ 1000
  lo : B ≤ v
theorem RW.keep {B : Nat} {w w' : World} {v : Nat} {M : List (Int × (Int × Bool))} (h : RW B w v M) (f : Fr (fun _ => False) w w') : RW B w' v M := by
  obtain ⟨row, top, hb, hr, ha, ht⟩ := h.ex
  exact ⟨⟨row, top, hb.keep f (fun h => h), row_keep hr f (fun _ _ h => h), ha, ht⟩, h.keys, h.lo⟩
theorem wl_drop {M : List (Int × (Int × Bool))} {j : Nat} {m n : Int} {q : Int × Bool} (hx : M[j]? = some (m, q)) : wl (M.drop j) n = if m = n then some q else wl (M.drop (j + 1)) n := by
  have hj : j < M.length := by
    rcases Nat.lt_or_ge j M.length with h | h
    · exact h
    · rw [List.getElem?_eq_none h] at hx; cases hx
  rw [List.drop_eq_getElem_cons hj]
  have : M[j] = (m, q) := by rw [List.getElem?_eq_getElem hj] at hx; simpa using hx
  rw [this]
  rfl

set_option maxRecDepth 100000 in
theorem rget_yes {B : Nat} {w : World} {v : Nat} {M : List (Int × (Int × Bool))} (n kd : Int) (s : Bool) (h : RW B w v M) (hl : wl M n = some (kd, s)) (hlen : M.length ≤ 100000) :
    Calls Try.prog 27 #[.pointer (some ⟨v, 0, none⟩), .int .i64 n] w fun e w' => e = .returned (.tuple #[.agg #[.int .i64 1, .int .i64 1, .int .i64 n, .int .i64 1, .int .i64 0, .int .i64 kd, .int .i64 1, .int .i64 1, .int .i64 0, .int .i64 0, .int .i64 1, .int .i64 1, .bool s, .int .i64 0, .int .i64 0, .int .i64 0, .int .i64 0, .slice none 0 0], .bool true]) ∧ Fr (fun _ => False) w w' := by
  have HW := hid h
  have HL := hid hl
  have HLEN := hid hlen
  clear h hl hlen
  go_enter Try.func27, Try.ntmps27
  go_wp2_with (refine wpList_new rfl 37 rfl #[.int .i64 0, .int .i64 0, .int .i64 0, .int .i64 0, .int .i64 0, .int .i64 0, .int .i64 0, .int .i64 0, .int .i64 0, .int .i64 0, .int .i64 0, .int .i64 0, .bool false, .int .i64 0, .int .i64 0, .int .i64 0, .int .i64 0, .slice none 0 0] zeroData ?_)
  intro r w1 hr B1 f1 z1
  have HR := hid hr
  have HF1 := hid f1
  have HW1 := hid (HW.out.keep f1)
  clear hr z1 f1
  go_wp2_with fail
  go_loopw [6] (fun i wr => ∃ j : Nat, j ≤ M.length ∧ i = .int .i64 j ∧ wl (M.drop j) n = some (kd, s) ∧ wr = w1) (fun i _ => M.length - (intOf i).toNat)
  case atStart => exact ⟨0, by omega, rfl, by rw [List.drop_zero]; exact HL.out, rfl⟩
  case round =>
    obtain ⟨j, hj, rfl, hwl, rfl⟩ := hrel
    have hjl : j < M.length := by
      rcases Nat.lt_or_ge j M.length with h | h
      · exact h
      · rw [List.drop_eq_nil_of_le h] at hwl; cases hwl
    obtain ⟨row, top, hb, hrow, _, _⟩ := HW1.out.ex
    obtain ⟨ao, cap, rfl⟩ := rowN_shape hrow
    obtain ⟨gb, cb, hab, _, hnc, hcm⟩ := rowN_some hrow (by omega)
    injection hab with e1 e2 e3
    subst e1; subst e3
    obtain ⟨⟨m, kd', s'⟩, hx⟩ : ∃ x, M[j]? = some x := ⟨_, List.getElem?_eq_getElem hjl⟩
    have hc : wr.cell? ⟨gb, j * 18 + 2, none⟩ = some (.int .i64 m) := rowN_cell hrow _ _ (flatD_at hx)
    have c0 : wr.cell? ⟨v, 0, none⟩ = some (.slice (some ⟨gb, 0, none⟩) M.length cap) := hb.cell 0 rfl
    rw [wl_drop hx] at hwl
    obtain ⟨cs, hbl, hseg⟩ := row_elem hrow hx
    have HX := hid hx
    have j0 : (0 : Int) ≤ (j : Int) := by omega
    have hlen := HLEN.out
    have j1 : (j : Int) < (M.length : Int) := by omega
    have HHB := hid hb
    have HROW := hid hrow
    clear hx hrow hb hcm hnc
    by_cases hm : m = n
    · subst hm
      rw [if_pos rfl] at hwl
      injection hwl with hwl
      injection hwl with hk hs
      subst hk; subst hs
      have HBL := hid hbl
      have HSEG := hid hseg
      clear hbl hseg
      go_wp2_with (refine wpList_load_part rfl 37 _ rfl aggData gb (j * 18) rfl HBL.out #[.int .i64 1, .int .i64 1, .int .i64 m, .int .i64 1, .int .i64 0, .int .i64 kd', .int .i64 1, .int .i64 1, .int .i64 0, .int .i64 0, .int .i64 1, .int .i64 1, .bool s', .int .i64 0, .int .i64 0, .int .i64 0, .int .i64 0, .slice none 0 0] HSEG.out rfl ?_)
      refine (rcopy14_any m kd' s' _).mono ?_
      rintro e w5 ⟨rfl, f5⟩
      have HF5 := hid (HF1.out.trans f5)
      have B5 := B1.keep f5 (fun h => h)
      clear f5 B1
      go_wp2_with (refine wpList_store_part rfl 37 _ _ rfl aggData r 0 rfl B5 (.agg #[.int .i64 1, .int .i64 1, .int .i64 m, .int .i64 1, .int .i64 0, .int .i64 kd', .int .i64 1, .int .i64 1, .int .i64 0, .int .i64 0, .int .i64 1, .int .i64 1, .bool s', .int .i64 0, .int .i64 0, .int .i64 0, .int .i64 0, .slice none 0 0]) rfl rfl (one_dat m kd' s') (Nat.le_refl 18) #[.int .i64 1, .int .i64 1, .int .i64 m, .int .i64 1, .int .i64 0, .int .i64 kd', .int .i64 1, .int .i64 1, .int .i64 0, .int .i64 0, .int .i64 1, .int .i64 1, .bool s', .int .i64 0, .int .i64 0, .int .i64 0, .int .i64 0, .slice none 0 0] rfl ?_)
      intro w6 B6 f6 z6
      have HF6 := hid (HF5.out.into f6 (by have := HR.out; omega))
      clear f6 z6
      go_wp2_with fail
      exact bodyPost_ret (v := .tuple #[.agg #[.int .i64 1, .int .i64 1, .int .i64 m, .int .i64 1, .int .i64 0, .int .i64 kd', .int .i64 1, .int .i64 1, .int .i64 0, .int .i64 0, .int .i64 1, .int .i64 1, .bool s', .int .i64 0, .int .i64 0, .int .i64 0, .int .i64 0, .slice none 0 0], .bool true]) (results_cell_slot rfl _ aggData rfl B6 rfl _ rfl) rfl ⟨rfl, HF6.out⟩
    · rw [if_neg hm] at hwl
      have HWL := hid hwl
      clear hwl hbl hseg
      go_wp2_with fail
      go_roundw
      case rel => exact ⟨j + 1, by omega, by go_num, HWL.out, by first | rfl | trivial⟩
      case measure => simp [intOf]; omega
set_option maxRecDepth 100000 in
theorem rget_no {B : Nat} {w : World} {v : Nat} {M : List (Int × (Int × Bool))} (n : Int) (h : RW B w v M) (hl : wl M n = none) (hlen : M.length ≤ 100000) :
    Calls Try.prog 27 #[.pointer (some ⟨v, 0, none⟩), .int .i64 n] w fun e w' => e = .returned (.tuple #[.agg #[.int .i64 0, .int .i64 0, .int .i64 0, .int .i64 0, .int .i64 0, .int .i64 0, .int .i64 0, .int .i64 0, .int .i64 0, .int .i64 0, .int .i64 0, .int .i64 0, .bool false, .int .i64 0, .int .i64 0, .int .i64 0, .int .i64 0, .slice none 0 0], .bool false]) ∧ Fr (fun _ => False) w w' := by
  have HW := hid h
  have HL := hid hl
  have HLEN := hid hlen
  clear h hl hlen
  go_enter Try.func27, Try.ntmps27
  go_wp2_with (refine wpList_new rfl 37 rfl #[.int .i64 0, .int .i64 0, .int .i64 0, .int .i64 0, .int .i64 0, .int .i64 0, .int .i64 0, .int .i64 0, .int .i64 0, .int .i64 0, .int .i64 0, .int .i64 0, .bool false, .int .i64 0, .int .i64 0, .int .i64 0, .int .i64 0, .slice none 0 0] zeroData ?_)
  intro r w1 hr B1 f1 z1
  have HR := hid hr
  have HF1 := hid f1
  have HW1 := hid (HW.out.keep f1)
  have HB1 := hid B1
  clear hr z1 f1 B1
  go_wp2_with fail
  go_loopw [6] (fun i wr => ∃ j : Nat, j ≤ M.length ∧ i = .int .i64 j ∧ wl (M.drop j) n = none ∧ wr = w1) (fun i _ => M.length - (intOf i).toNat)
  case atStart => exact ⟨0, by omega, rfl, by rw [List.drop_zero]; exact HL.out, rfl⟩
  case round =>
    obtain ⟨j, hj, rfl, hwl, rfl⟩ := hrel
    obtain ⟨row, top, hb, hrow, _, _⟩ := HW1.out.ex
    by_cases hjl : j < M.length
    · obtain ⟨ao, cap, rfl⟩ := rowN_shape hrow
      obtain ⟨gb, cb, hab, _, hnc, hcm⟩ := rowN_some hrow (by omega)
      injection hab with e1 e2 e3
      subst e1; subst e3
      obtain ⟨⟨m, kd', s'⟩, hx⟩ : ∃ x, M[j]? = some x := ⟨_, List.getElem?_eq_getElem hjl⟩
      have hc : wr.cell? ⟨gb, j * 18 + 2, none⟩ = some (.int .i64 m) := rowN_cell hrow _ _ (flatD_at hx)
      have c0 : wr.cell? ⟨v, 0, none⟩ = some (.slice (some ⟨gb, 0, none⟩) M.length cap) := hb.cell 0 rfl
      rw [wl_drop hx] at hwl
      have HX := hid hx
      have j0 : (0 : Int) ≤ (j : Int) := by omega
      have hlen := HLEN.out
      have j1 : (j : Int) < (M.length : Int) := by omega
      have HHB := hid hb
      have HROW := hid hrow
      clear hx hrow hb hcm hnc
      by_cases hm : m = n
      · rw [if_pos hm] at hwl; cases hwl
      · rw [if_neg hm] at hwl
        have HWL := hid hwl
        clear hwl
        go_wp2_with fail
        go_roundw
        case rel => exact ⟨j + 1, by omega, by go_num, HWL.out, by first | rfl | trivial⟩
        case measure => simp [intOf]; omega
    · have hjn : j = M.length := by omega
      subst hjn
      obtain ⟨ao, cap, rfl⟩ := rowN_shape hrow
      have c0 : wr.cell? ⟨v, 0, none⟩ = some (.slice ao M.length cap) := hb.cell 0 rfl
      have B1 := HB1.out
      clear hwl hb hrow
      go_wp2_with (refine wpList_store_part rfl 37 _ _ rfl aggData r 0 rfl B1 (.agg #[.int .i64 0, .int .i64 0, .int .i64 0, .int .i64 0, .int .i64 0, .int .i64 0, .int .i64 0, .int .i64 0, .int .i64 0, .int .i64 0, .int .i64 0, .int .i64 0, .bool false, .int .i64 0, .int .i64 0, .int .i64 0, .int .i64 0, .slice none 0 0]) rfl rfl one_zd (Nat.le_refl 18) #[.int .i64 0, .int .i64 0, .int .i64 0, .int .i64 0, .int .i64 0, .int .i64 0, .int .i64 0, .int .i64 0, .int .i64 0, .int .i64 0, .int .i64 0, .int .i64 0, .bool false, .int .i64 0, .int .i64 0, .int .i64 0, .int .i64 0, .slice none 0 0] rfl ?_)
      intro w6 B6 f6 z6
      have HF6 := hid (HF1.out.into f6 (by have := HR.out; omega))
      clear f6 z6
      go_wp2_with fail
      exact bodyPost_ret (v := .tuple #[.agg #[.int .i64 0, .int .i64 0, .int .i64 0, .int .i64 0, .int .i64 0, .int .i64 0, .int .i64 0, .int .i64 0, .int .i64 0, .int .i64 0, .int .i64 0, .int .i64 0, .bool false, .int .i64 0, .int .i64 0, .int .i64 0, .int .i64 0, .slice none 0 0], .bool false]) (results_cell_slot rfl _ aggData rfl B6 rfl _ rfl) rfl ⟨rfl, HF6.out⟩
end Go.Proofs.Ytclaggjlacinlaa
