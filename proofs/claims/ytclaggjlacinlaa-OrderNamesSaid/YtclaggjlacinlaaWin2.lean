/-
  THE WINDOW'S CALLS Get AND Put, of the statements' own data. Conditions: numbers up to 1000.
-/
import Derived.Test.YtclaggjlacinlaaWin
import Derived.Test.YtclaggjlacinlaaCheckR
namespace Go.Proofs.Ytclaggjlacinlaa
open Go.RowKit

def wm (x : Int × (Int × Bool)) : Int × Value := (x.1, datv x.1 x.2.1 x.2.2)
def wl : List (Int × (Int × Bool)) → Int → Option (Int × Bool)
  | [], _ => none
  | x :: r, n => if x.1 = n then some x.2 else wl r n
theorem look_wm (M : List (Int × (Int × Bool))) (n : Int) : look (M.map wm) n = (wl M n).map fun q => datv n q.1 q.2 := by
  induction M with
  | nil => rfl
  | cons x r ih =>
    simp only [List.map_cons]
    unfold look wl
    by_cases h : x.1 = n
    · subst h; simp [wm]
    · simp [wm, h]; exact ih
theorem wl_none_idx {M : List (Int × (Int × Bool))} {n : Int} (h : wl M n = none) (i : Nat) : idx n (M.map wm) i = none := by
  induction M generalizing i with
  | nil => rfl
  | cons x r ih =>
    unfold wl at h
    split at h
    · cases h
    · rename_i hx
      simp only [List.map_cons]
      unfold idx
      simp [wm, hx]
      exact ih h (i + 1)
theorem put_wm {M : List (Int × (Int × Bool))} {n kd : Int} {s : Bool} (h : wl M n = none) : put (M.map wm) n (datv n kd s) = (M ++ [(n, (kd, s))]).map wm := by
  rw [put_none (wl_none_idx h 0)]; simp [wm]
theorem wl_append (M : List (Int × (Int × Bool))) (n m : Int) (q : Int × Bool) : wl (M ++ [(n, q)]) m = match wl M m with | some x => some x | none => if n = m then some q else none := by
  induction M with
  | nil => simp [wl]
  | cons x r ih =>
    simp only [List.cons_append]
    unfold wl
    split
    · rfl
    · exact ih
theorem wl_mem {M : List (Int × (Int × Bool))} {n : Int} {q : Int × Bool} (h : wl M n = some q) : (n, q) ∈ M := by
  induction M with
  | nil => cases h
  | cons x r ih =>
    unfold wl at h
    split at h
    · rename_i hx; subst hx; injection h with h; subst h; exact List.mem_cons_self
    · exact List.mem_cons_of_mem _ (ih h)

structure WS (w0 w : World) (g b : Nat) (M : List (Int × (Int × Bool))) : Prop where
  ex : ∃ aru high : Int, Blk w g #[.bool true, .map (some b), .int .i64 aru, .int .i64 high] 60 ∧ 0 ≤ aru ∧ aru ≤ 1000 ∧ 0 ≤ high ∧ high ≤ 1000
  map : MapIs w b (Value.int .i64) (M.map wm)
  keys : ∀ x ∈ M, 1 ≤ x.1 ∧ x.1 ≤ 1000
  fr : Fr (fun _ => False) w0 w
  lo : w0.heap.size ≤ g
  lob : w0.heap.size ≤ b
theorem WS.keep {w0 w w' : World} {g b : Nat} {M : List (Int × (Int × Bool))} (h : WS w0 w g b M) (f : Fr (fun _ => False) w w') : WS w0 w' g b M := by
  obtain ⟨a, hi, q, r⟩ := h.ex
  exact ⟨⟨a, hi, q.keep f (fun h => h), r⟩, h.map.keep f (fun h => h), h.keys, h.fr.trans f, h.lo, h.lob⟩
theorem WS.base {w0 w w' : World} {g b : Nat} {M : List (Int × (Int × Bool))} (h : WS w0 w g b M) (f : Fr (fun _ => False) w' w0) : WS w' w g b M :=
  ⟨h.ex, h.map, h.keys, f.trans h.fr, Nat.le_trans f.size h.lo, Nat.le_trans f.size h.lob⟩
theorem winnew_c (w : World) : Calls Try.prog 7 #[] w fun e w' => ∃ g b, e = .returned (.pointer (some ⟨g, 0, none⟩)) ∧ WS w w' g b [] := by
  refine (wwnew_any w).mono ?_
  rintro e w' ⟨g, b, rfl, q1, q2, q3, q4, q5⟩
  exact ⟨g, b, rfl, ⟨0, 0, q1, by omega, by omega, by omega, by omega⟩, q2, fun x hx => by (cases hx), q3, q4, q5⟩
theorem wnone_any {w0 w : World} {g b : Nat} {M : List (Int × (Int × Bool))} (h : WS w0 w g b M) : Calls Try.prog 18 #[.pointer (some ⟨g, 0, none⟩)] w fun e w' => e = .returned (.bool false) ∧ w = w' := by
  obtain ⟨a, hi, q, _⟩ := h.ex
  have c0 : w.cell? ⟨g, 0, none⟩ = some (.bool true) := q.cell 0 rfl
  clear h q
  go_enter Try.func18, Try.ntmps18
  go_wp2
  go_ret
  exact ⟨rfl, rfl⟩

set_option maxRecDepth 100000 in
theorem get_yes {w0 w : World} {g b : Nat} {M : List (Int × (Int × Bool))} (n : Int) (kd : Int) (s : Bool) (h : WS w0 w g b M) (hl : wl M n = some (kd, s)) :
    Calls Try.prog 17 #[.pointer (some ⟨g, 0, none⟩), .int .i64 n] w fun e w' => e = .returned (.tuple #[.agg #[.int .i64 1, .int .i64 1, .int .i64 n, .int .i64 1, .int .i64 0, .int .i64 kd, .int .i64 1, .int .i64 1, .int .i64 0, .int .i64 0, .int .i64 1, .int .i64 1, .bool s, .int .i64 0, .int .i64 0, .int .i64 0, .int .i64 0, .slice none 0 0], .bool true]) ∧ Fr (fun _ => False) w w' := by
  have HL := hid (look_wm M n)
  rw [hl] at HL
  simp only [Option.map_some, datv] at HL
  have HW := hid h
  clear hl h
  go_enter Try.func17, Try.ntmps17
  go_wp2_with (refine wpList_new rfl 37 rfl #[.int .i64 0, .int .i64 0, .int .i64 0, .int .i64 0, .int .i64 0, .int .i64 0, .int .i64 0, .int .i64 0, .int .i64 0, .int .i64 0, .int .i64 0, .int .i64 0, .bool false, .int .i64 0, .int .i64 0, .int .i64 0, .int .i64 0, .slice none 0 0] zeroData ?_)
  intro r w1 hr B1 f1 z1
  have HR := hid hr
  have HF1 := hid f1
  have HW1 := hid (HW.out.keep f1)
  clear hr f1 z1
  go_wp2_with fail
  refine (wnone_any HW1.out).mono ?_
  rintro e w2 ⟨rfl, rfl⟩
  obtain ⟨aru, high, hblk, _⟩ := HW1.out.ex
  have c1 : w1.cell? ⟨g, 1, none⟩ = some (.map (some b)) := hblk.cell 1 rfl
  have HM := hid HW1.out.map
  clear hblk
  go_wp2_with (first | (refine wpList_lookup_yes rfl _ _ 58 rfl (int_keyOk Try.underlying3) Try.underlying58 (zeroData w1) HM.out n rfl rfl (.agg #[.int .i64 1, .int .i64 1, .int .i64 n, .int .i64 1, .int .i64 0, .int .i64 kd, .int .i64 1, .int .i64 1, .int .i64 0, .int .i64 0, .int .i64 1, .int .i64 1, .bool s, .int .i64 0, .int .i64 0, .int .i64 0, .int .i64 0, .slice none 0 0]) HL.out ?_) | (refine wpList_new rfl 37 rfl #[.int .i64 0, .int .i64 0, .int .i64 0, .int .i64 0, .int .i64 0, .int .i64 0, .int .i64 0, .int .i64 0, .int .i64 0, .int .i64 0, .int .i64 0, .int .i64 0, .bool false, .int .i64 0, .int .i64 0, .int .i64 0, .int .i64 0, .slice none 0 0] zeroData ?_))
  intro d w3 hd B3 f3 z3
  have HD := hid hd
  have HF3 := hid (HF1.out.trans f3)
  have BR3 := B1.keep f3 (fun h => h)
  have hrd : ¬ r = d := by have := B1.lt; omega
  have HZ := hid HF1.out.size
  clear hd f3 z3 B1
  go_wp2_with (refine wpList_store_part rfl 37 _ _ rfl aggData d 0 rfl B3 (.agg #[.int .i64 1, .int .i64 1, .int .i64 n, .int .i64 1, .int .i64 0, .int .i64 kd, .int .i64 1, .int .i64 1, .int .i64 0, .int .i64 0, .int .i64 1, .int .i64 1, .bool s, .int .i64 0, .int .i64 0, .int .i64 0, .int .i64 0, .slice none 0 0]) rfl rfl (one_dat n kd s) (by decide) #[.int .i64 1, .int .i64 1, .int .i64 n, .int .i64 1, .int .i64 0, .int .i64 kd, .int .i64 1, .int .i64 1, .int .i64 0, .int .i64 0, .int .i64 1, .int .i64 1, .bool s, .int .i64 0, .int .i64 0, .int .i64 0, .int .i64 0, .slice none 0 0] rfl ?_)
  intro w4 B4 f4 z4
  have HF4 := hid (HF3.out.step f4 (fun k hk e => by have := HD.out; have := HZ.out; omega))
  have BR4 := BR3.keep f4 hrd
  clear f4 z4 BR3 B3
  go_wp2_with (refine wpList_load_part rfl 37 _ rfl aggData d 0 rfl B4 #[.int .i64 1, .int .i64 1, .int .i64 n, .int .i64 1, .int .i64 0, .int .i64 kd, .int .i64 1, .int .i64 1, .int .i64 0, .int .i64 0, .int .i64 1, .int .i64 1, .bool s, .int .i64 0, .int .i64 0, .int .i64 0, .int .i64 0, .slice none 0 0] rfl rfl ?_)
  refine (own_any n kd s _).mono ?_
  rintro e w5 ⟨rfl, f5⟩
  have HF5 := hid (HF4.out.trans f5)
  have BR5 := BR4.keep f5 (fun h => h)
  clear f5 BR4 B4
  go_wp2_with (refine wpList_store_part rfl 37 _ _ rfl aggData r 0 rfl BR5 (.agg #[.int .i64 1, .int .i64 1, .int .i64 n, .int .i64 1, .int .i64 0, .int .i64 kd, .int .i64 1, .int .i64 1, .int .i64 0, .int .i64 0, .int .i64 1, .int .i64 1, .bool s, .int .i64 0, .int .i64 0, .int .i64 0, .int .i64 0, .slice none 0 0]) rfl rfl (one_dat n kd s) (by decide) #[.int .i64 1, .int .i64 1, .int .i64 n, .int .i64 1, .int .i64 0, .int .i64 kd, .int .i64 1, .int .i64 1, .int .i64 0, .int .i64 0, .int .i64 1, .int .i64 1, .bool s, .int .i64 0, .int .i64 0, .int .i64 0, .int .i64 0, .slice none 0 0] rfl ?_)
  intro w6 B6 f6 z6
  have HF6 := hid (HF5.out.step f6 (fun k hk e => by have := HR.out; omega))
  clear f6 z6
  go_wp2_with fail
  exact bodyPost_ret (v := .tuple #[.agg #[.int .i64 1, .int .i64 1, .int .i64 n, .int .i64 1, .int .i64 0, .int .i64 kd, .int .i64 1, .int .i64 1, .int .i64 0, .int .i64 0, .int .i64 1, .int .i64 1, .bool s, .int .i64 0, .int .i64 0, .int .i64 0, .int .i64 0, .slice none 0 0], .bool true]) (results_cell_slot rfl _ aggData rfl B6 rfl _ rfl) rfl ⟨rfl, HF6.out⟩
set_option maxRecDepth 100000 in
theorem get_no {w0 w : World} {g b : Nat} {M : List (Int × (Int × Bool))} (n : Int)  (h : WS w0 w g b M) (hl : wl M n = none) :
    Calls Try.prog 17 #[.pointer (some ⟨g, 0, none⟩), .int .i64 n] w fun e w' => e = .returned (.tuple #[.agg #[.int .i64 0, .int .i64 0, .int .i64 0, .int .i64 0, .int .i64 0, .int .i64 0, .int .i64 0, .int .i64 0, .int .i64 0, .int .i64 0, .int .i64 0, .int .i64 0, .bool false, .int .i64 0, .int .i64 0, .int .i64 0, .int .i64 0, .slice none 0 0], .bool false]) ∧ Fr (fun _ => False) w w' := by
  have HL := hid (look_wm M n)
  rw [hl] at HL
  simp only [Option.map_none] at HL
  have HW := hid h
  clear hl h
  go_enter Try.func17, Try.ntmps17
  go_wp2_with (refine wpList_new rfl 37 rfl #[.int .i64 0, .int .i64 0, .int .i64 0, .int .i64 0, .int .i64 0, .int .i64 0, .int .i64 0, .int .i64 0, .int .i64 0, .int .i64 0, .int .i64 0, .int .i64 0, .bool false, .int .i64 0, .int .i64 0, .int .i64 0, .int .i64 0, .slice none 0 0] zeroData ?_)
  intro r w1 hr B1 f1 z1
  have HR := hid hr
  have HF1 := hid f1
  have HW1 := hid (HW.out.keep f1)
  clear hr f1 z1
  go_wp2_with fail
  refine (wnone_any HW1.out).mono ?_
  rintro e w2 ⟨rfl, rfl⟩
  obtain ⟨aru, high, hblk, _⟩ := HW1.out.ex
  have c1 : w1.cell? ⟨g, 1, none⟩ = some (.map (some b)) := hblk.cell 1 rfl
  have HM := hid HW1.out.map
  clear hblk
  go_wp2_with (first | (refine wpList_lookup_no rfl _ _ 58 rfl (int_keyOk Try.underlying3) Try.underlying58 (zeroData w1) HM.out n rfl rfl HL.out ?_) | (refine wpList_new rfl 37 rfl #[.int .i64 0, .int .i64 0, .int .i64 0, .int .i64 0, .int .i64 0, .int .i64 0, .int .i64 0, .int .i64 0, .int .i64 0, .int .i64 0, .int .i64 0, .int .i64 0, .bool false, .int .i64 0, .int .i64 0, .int .i64 0, .int .i64 0, .slice none 0 0] zeroData ?_))
  intro d w3 hd B3 f3 z3
  have HD := hid hd
  have HF3 := hid (HF1.out.trans f3)
  have BR3 := B1.keep f3 (fun h => h)
  have hrd : ¬ r = d := by have := B1.lt; omega
  have HZ := hid HF1.out.size
  clear hd f3 z3 B1
  go_wp2_with (refine wpList_store_part rfl 37 _ _ rfl aggData d 0 rfl B3 (.agg #[.int .i64 0, .int .i64 0, .int .i64 0, .int .i64 0, .int .i64 0, .int .i64 0, .int .i64 0, .int .i64 0, .int .i64 0, .int .i64 0, .int .i64 0, .int .i64 0, .bool false, .int .i64 0, .int .i64 0, .int .i64 0, .int .i64 0, .slice none 0 0]) rfl rfl (one_zd) (by decide) #[.int .i64 0, .int .i64 0, .int .i64 0, .int .i64 0, .int .i64 0, .int .i64 0, .int .i64 0, .int .i64 0, .int .i64 0, .int .i64 0, .int .i64 0, .int .i64 0, .bool false, .int .i64 0, .int .i64 0, .int .i64 0, .int .i64 0, .slice none 0 0] rfl ?_)
  intro w4 B4 f4 z4
  have HF4 := hid (HF3.out.step f4 (fun k hk e => by have := HD.out; have := HZ.out; omega))
  have BR4 := BR3.keep f4 hrd
  clear f4 z4 BR3 B3
  go_wp2_with (refine wpList_load_part rfl 37 _ rfl aggData d 0 rfl B4 #[.int .i64 0, .int .i64 0, .int .i64 0, .int .i64 0, .int .i64 0, .int .i64 0, .int .i64 0, .int .i64 0, .int .i64 0, .int .i64 0, .int .i64 0, .int .i64 0, .bool false, .int .i64 0, .int .i64 0, .int .i64 0, .int .i64 0, .slice none 0 0] rfl rfl ?_)
  refine (own_zero _).mono ?_
  rintro e w5 ⟨rfl, f5⟩
  have HF5 := hid (HF4.out.trans f5)
  have BR5 := BR4.keep f5 (fun h => h)
  clear f5 BR4 B4
  go_wp2_with (refine wpList_store_part rfl 37 _ _ rfl aggData r 0 rfl BR5 (.agg #[.int .i64 0, .int .i64 0, .int .i64 0, .int .i64 0, .int .i64 0, .int .i64 0, .int .i64 0, .int .i64 0, .int .i64 0, .int .i64 0, .int .i64 0, .int .i64 0, .bool false, .int .i64 0, .int .i64 0, .int .i64 0, .int .i64 0, .slice none 0 0]) rfl rfl (one_zd) (by decide) #[.int .i64 0, .int .i64 0, .int .i64 0, .int .i64 0, .int .i64 0, .int .i64 0, .int .i64 0, .int .i64 0, .int .i64 0, .int .i64 0, .int .i64 0, .int .i64 0, .bool false, .int .i64 0, .int .i64 0, .int .i64 0, .int .i64 0, .slice none 0 0] rfl ?_)
  intro w6 B6 f6 z6
  have HF6 := hid (HF5.out.step f6 (fun k hk e => by have := HR.out; omega))
  clear f6 z6
  go_wp2_with fail
  exact bodyPost_ret (v := .tuple #[.agg #[.int .i64 0, .int .i64 0, .int .i64 0, .int .i64 0, .int .i64 0, .int .i64 0, .int .i64 0, .int .i64 0, .int .i64 0, .int .i64 0, .int .i64 0, .int .i64 0, .bool false, .int .i64 0, .int .i64 0, .int .i64 0, .int .i64 0, .slice none 0 0], .bool false]) (results_cell_slot rfl _ aggData rfl B6 rfl _ rfl) rfl ⟨rfl, HF6.out⟩
end Go.Proofs.Ytclaggjlacinlaa
