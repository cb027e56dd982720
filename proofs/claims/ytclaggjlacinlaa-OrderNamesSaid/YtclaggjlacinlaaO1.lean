/-
  THE DOCUMENT'S WINDOWS AND ORDERS (hauberkref14, hauberkref17, hauberkref05) on the statements' own data: Copy, New, Done. Conditions: no bodies.
-/
import Derived.Test.YtclaggjlacinlaaWin6
namespace Go.Proofs.Ytclaggjlacinlaa
open Go.RowKit
set_option linter.unusedSimpArgs false

theorem rcopybytes_nil (w : World) : Calls Try.prog 36 #[.slice none 0 0] w fun e w' => e = .returned (.slice none 0 0) ∧ w = w' := by
  go_enter Try.func36, Try.ntmps36
  go_wp2
  go_ret
  exact ⟨rfl, rfl⟩
set_option maxRecDepth 100000 in
theorem rcopy5_any (kd : Int) (s : Bool) (w : World) : Calls Try.prog 34 #[.agg #[.int .i64 kd, .int .i64 1, .int .i64 1, .int .i64 0, .int .i64 0, .int .i64 1, .int .i64 1, .bool s, .int .i64 0, .int .i64 0, .int .i64 0, .int .i64 0, .slice none 0 0]] w fun e w' => e = .returned (.agg #[.int .i64 kd, .int .i64 1, .int .i64 1, .int .i64 0, .int .i64 0, .int .i64 1, .int .i64 1, .bool s, .int .i64 0, .int .i64 0, .int .i64 0, .int .i64 0, .slice none 0 0]) ∧ Fr (fun _ => False) w w' := by
  go_enter Try.func34, Try.ntmps34
  go_wp2_with (refine wpList_boxed rfl 35 _ rfl #[.int .i64 kd, .int .i64 1, .int .i64 1, .int .i64 0, .int .i64 0, .int .i64 1, .int .i64 1, .bool s, .int .i64 0, .int .i64 0, .int .i64 0, .int .i64 0, .slice none 0 0] rfl ?_)
  intro b w1 hb B1 f1 z1
  have HB := hid hb
  have HF1 := hid f1
  clear hb z1 f1
  go_wp2_with (refine wpList_new rfl 35 rfl #[.int .i64 0, .int .i64 0, .int .i64 0, .int .i64 0, .int .i64 0, .int .i64 0, .int .i64 0, .bool false, .int .i64 0, .int .i64 0, .int .i64 0, .int .i64 0, .slice none 0 0] zeroMsg ?_)
  intro r w2 hr B2 f2 z2
  have hbr : ¬ b = r := by have := B1.lt; omega
  have HR := hid hr
  have HZ1 := hid HF1.out.size
  have HF2 := hid (HF1.out.trans f2)
  have BB2 := B1.keep f2 (fun h => h)
  clear hr z2 f2 B1
  go_wp2_with (first | (refine wpList_load_part rfl 35 _ rfl aggMsg b 0 rfl BB2 #[.int .i64 kd, .int .i64 1, .int .i64 1, .int .i64 0, .int .i64 0, .int .i64 1, .int .i64 1, .bool s, .int .i64 0, .int .i64 0, .int .i64 0, .int .i64 0, .slice none 0 0] rfl rfl ?_) | (refine wpList_new rfl 35 rfl #[.int .i64 0, .int .i64 0, .int .i64 0, .int .i64 0, .int .i64 0, .int .i64 0, .int .i64 0, .bool false, .int .i64 0, .int .i64 0, .int .i64 0, .int .i64 0, .slice none 0 0] zeroMsg ?_))
  intro o w3 ho B3 f3 z3
  have hbo : ¬ b = o := by have := BB2.lt; omega
  have hro : ¬ r = o := by have := B2.lt; omega
  have HO := hid ho
  have HZ2 := hid HF2.out.size
  have HF3 := hid (HF2.out.trans f3)
  have BB3 := BB2.keep f3 (fun h => h)
  have BR3 := B2.keep f3 (fun h => h)
  clear ho z3 f3 BB2 B2
  go_wp2_with (refine wpList_store_part rfl 35 _ _ rfl aggMsg o 0 rfl B3 (.agg #[.int .i64 kd, .int .i64 1, .int .i64 1, .int .i64 0, .int .i64 0, .int .i64 1, .int .i64 1, .bool s, .int .i64 0, .int .i64 0, .int .i64 0, .int .i64 0, .slice none 0 0]) rfl rfl (one_msg kd s) (by decide) #[.int .i64 kd, .int .i64 1, .int .i64 1, .int .i64 0, .int .i64 0, .int .i64 1, .int .i64 1, .bool s, .int .i64 0, .int .i64 0, .int .i64 0, .int .i64 0, .slice none 0 0] rfl ?_)
  intro w4 B4 f4 z4
  have HF4 := hid (HF3.out.into f4 (by have := HO.out; have := HZ2.out; omega))
  have BB4 := BB3.keep f4 hbo
  have BR4 := BR3.keep f4 hro
  clear f4 z4 BB3 BR3 B3
  have c12 : w4.cell? ⟨b, 12, none⟩ = some (.slice none 0 0) := BB4.cell 12 rfl
  have k12 : w4.cell? ⟨o, 12, none⟩ = some (.slice none 0 0) := B4.cell 12 rfl
  have y12 := B4.free 12
  go_wp2_with fail
  refine (rcopybytes_nil _).mono ?_
  rintro e w5 ⟨rfl, rfl⟩
  have B5 := B4.set' 12 (.slice none 0 0) (ds := #[.int .i64 kd, .int .i64 1, .int .i64 1, .int .i64 0, .int .i64 0, .int .i64 1, .int .i64 1, .bool s, .int .i64 0, .int .i64 0, .int .i64 0, .int .i64 0, .slice none 0 0]) rfl
  have BR5 := BR4.other (p := ⟨o, 12, none⟩) hro (.slice none 0 0)
  have HF5 := hid (HF4.out.setNew (p := ⟨o, 12, none⟩) (by have := HO.out; have := HZ2.out; show w.heap.size ≤ o; omega) (.slice none 0 0))
  clear BB4 BR4
  go_wp2_with (first | (refine wpList_load_part rfl 35 _ rfl aggMsg o 0 rfl B5 #[.int .i64 kd, .int .i64 1, .int .i64 1, .int .i64 0, .int .i64 0, .int .i64 1, .int .i64 1, .bool s, .int .i64 0, .int .i64 0, .int .i64 0, .int .i64 0, .slice none 0 0] rfl rfl ?_) | (refine wpList_store_part rfl 35 _ _ rfl aggMsg r 0 rfl BR5 (.agg #[.int .i64 kd, .int .i64 1, .int .i64 1, .int .i64 0, .int .i64 0, .int .i64 1, .int .i64 1, .bool s, .int .i64 0, .int .i64 0, .int .i64 0, .int .i64 0, .slice none 0 0]) rfl rfl (one_msg kd s) (by decide) #[.int .i64 kd, .int .i64 1, .int .i64 1, .int .i64 0, .int .i64 0, .int .i64 1, .int .i64 1, .bool s, .int .i64 0, .int .i64 0, .int .i64 0, .int .i64 0, .slice none 0 0] rfl ?_))
  intro w6 B6 f6 z6
  have HF6 := hid (HF5.out.into f6 (by have := HR.out; have := HZ1.out; omega))
  clear f6 z6
  go_wp2_with fail
  exact bodyPost_ret (v := .agg #[.int .i64 kd, .int .i64 1, .int .i64 1, .int .i64 0, .int .i64 0, .int .i64 1, .int .i64 1, .bool s, .int .i64 0, .int .i64 0, .int .i64 0, .int .i64 0, .slice none 0 0]) (results_cell1 rfl _ aggMsg rfl B6 rfl) rfl ⟨rfl, HF6.out⟩
set_option maxRecDepth 100000 in
theorem rcopy14_any (n kd : Int) (s : Bool) (w : World) : Calls Try.prog 31 #[.agg #[.int .i64 1, .int .i64 1, .int .i64 n, .int .i64 1, .int .i64 0, .int .i64 kd, .int .i64 1, .int .i64 1, .int .i64 0, .int .i64 0, .int .i64 1, .int .i64 1, .bool s, .int .i64 0, .int .i64 0, .int .i64 0, .int .i64 0, .slice none 0 0]] w fun e w' => e = .returned (.agg #[.int .i64 1, .int .i64 1, .int .i64 n, .int .i64 1, .int .i64 0, .int .i64 kd, .int .i64 1, .int .i64 1, .int .i64 0, .int .i64 0, .int .i64 1, .int .i64 1, .bool s, .int .i64 0, .int .i64 0, .int .i64 0, .int .i64 0, .slice none 0 0]) ∧ Fr (fun _ => False) w w' := by
  go_enter Try.func31, Try.ntmps31
  go_wp2_with (refine wpList_boxed rfl 37 _ rfl #[.int .i64 1, .int .i64 1, .int .i64 n, .int .i64 1, .int .i64 0, .int .i64 kd, .int .i64 1, .int .i64 1, .int .i64 0, .int .i64 0, .int .i64 1, .int .i64 1, .bool s, .int .i64 0, .int .i64 0, .int .i64 0, .int .i64 0, .slice none 0 0] rfl ?_)
  intro b w1 hb B1 f1 z1
  have HB := hid hb
  have HF1 := hid f1
  clear hb z1 f1
  go_wp2_with (refine wpList_new rfl 37 rfl #[.int .i64 0, .int .i64 0, .int .i64 0, .int .i64 0, .int .i64 0, .int .i64 0, .int .i64 0, .int .i64 0, .int .i64 0, .int .i64 0, .int .i64 0, .int .i64 0, .bool false, .int .i64 0, .int .i64 0, .int .i64 0, .int .i64 0, .slice none 0 0] zeroData ?_)
  intro r w2 hr B2 f2 z2
  have hbr : ¬ b = r := by have := B1.lt; omega
  have HR := hid hr
  have HZ1 := hid HF1.out.size
  have HF2 := hid (HF1.out.trans f2)
  have BB2 := B1.keep f2 (fun h => h)
  clear hr z2 f2 B1
  go_wp2_with (first | (refine wpList_load_part rfl 37 _ rfl aggData b 0 rfl BB2 #[.int .i64 1, .int .i64 1, .int .i64 n, .int .i64 1, .int .i64 0, .int .i64 kd, .int .i64 1, .int .i64 1, .int .i64 0, .int .i64 0, .int .i64 1, .int .i64 1, .bool s, .int .i64 0, .int .i64 0, .int .i64 0, .int .i64 0, .slice none 0 0] rfl rfl ?_) | (refine wpList_new rfl 37 rfl #[.int .i64 0, .int .i64 0, .int .i64 0, .int .i64 0, .int .i64 0, .int .i64 0, .int .i64 0, .int .i64 0, .int .i64 0, .int .i64 0, .int .i64 0, .int .i64 0, .bool false, .int .i64 0, .int .i64 0, .int .i64 0, .int .i64 0, .slice none 0 0] zeroData ?_))
  intro o w3 ho B3 f3 z3
  have hbo : ¬ b = o := by have := BB2.lt; omega
  have hro : ¬ r = o := by have := B2.lt; omega
  have HO := hid ho
  have HZ2 := hid HF2.out.size
  have HF3 := hid (HF2.out.trans f3)
  have BB3 := BB2.keep f3 (fun h => h)
  have BR3 := B2.keep f3 (fun h => h)
  clear ho z3 f3 BB2 B2
  go_wp2_with (refine wpList_store_part rfl 37 _ _ rfl aggData o 0 rfl B3 (.agg #[.int .i64 1, .int .i64 1, .int .i64 n, .int .i64 1, .int .i64 0, .int .i64 kd, .int .i64 1, .int .i64 1, .int .i64 0, .int .i64 0, .int .i64 1, .int .i64 1, .bool s, .int .i64 0, .int .i64 0, .int .i64 0, .int .i64 0, .slice none 0 0]) rfl rfl (one_dat n kd s) (by decide) #[.int .i64 1, .int .i64 1, .int .i64 n, .int .i64 1, .int .i64 0, .int .i64 kd, .int .i64 1, .int .i64 1, .int .i64 0, .int .i64 0, .int .i64 1, .int .i64 1, .bool s, .int .i64 0, .int .i64 0, .int .i64 0, .int .i64 0, .slice none 0 0] rfl ?_)
  intro w4 B4 f4 z4
  have HF4 := hid (HF3.out.into f4 (by have := HO.out; have := HZ2.out; omega))
  have BB4 := BB3.keep f4 hbo
  have BR4 := BR3.keep f4 hro
  clear f4 z4 BB3 BR3 B3
  go_wp2_with (refine wpList_load_part rfl 35 _ rfl aggMsg b 5 rfl BB4 #[.int .i64 kd, .int .i64 1, .int .i64 1, .int .i64 0, .int .i64 0, .int .i64 1, .int .i64 1, .bool s, .int .i64 0, .int .i64 0, .int .i64 0, .int .i64 0, .slice none 0 0] rfl rfl ?_)
  refine (rcopy5_any kd s _).mono ?_
  rintro e w5 ⟨rfl, f5⟩
  have B5 := B4.keep f5 (fun h => h)
  have BR5 := BR4.keep f5 (fun h => h)
  have HF5 := hid (HF4.out.trans f5)
  clear f5 B4 BB4 BR4
  go_wp2_with (refine wpList_store_part rfl 35 _ _ rfl aggMsg o 5 rfl B5 (.agg #[.int .i64 kd, .int .i64 1, .int .i64 1, .int .i64 0, .int .i64 0, .int .i64 1, .int .i64 1, .bool s, .int .i64 0, .int .i64 0, .int .i64 0, .int .i64 0, .slice none 0 0]) rfl rfl (one_msg kd s) (Nat.le_refl 18) #[.int .i64 1, .int .i64 1, .int .i64 n, .int .i64 1, .int .i64 0, .int .i64 kd, .int .i64 1, .int .i64 1, .int .i64 0, .int .i64 0, .int .i64 1, .int .i64 1, .bool s, .int .i64 0, .int .i64 0, .int .i64 0, .int .i64 0, .slice none 0 0] rfl ?_)
  intro w6 B6 f6 z6
  have BR6 := BR5.keep f6 hro
  have HF6 := hid (HF5.out.into f6 (by have := HO.out; have := HZ2.out; omega))
  clear f6 z6 BR5 B5
  go_wp2_with (first | (refine wpList_load_part rfl 37 _ rfl aggData o 0 rfl B6 #[.int .i64 1, .int .i64 1, .int .i64 n, .int .i64 1, .int .i64 0, .int .i64 kd, .int .i64 1, .int .i64 1, .int .i64 0, .int .i64 0, .int .i64 1, .int .i64 1, .bool s, .int .i64 0, .int .i64 0, .int .i64 0, .int .i64 0, .slice none 0 0] rfl rfl ?_) | (refine wpList_store_part rfl 37 _ _ rfl aggData r 0 rfl BR6 (.agg #[.int .i64 1, .int .i64 1, .int .i64 n, .int .i64 1, .int .i64 0, .int .i64 kd, .int .i64 1, .int .i64 1, .int .i64 0, .int .i64 0, .int .i64 1, .int .i64 1, .bool s, .int .i64 0, .int .i64 0, .int .i64 0, .int .i64 0, .slice none 0 0]) rfl rfl (one_dat n kd s) (by decide) #[.int .i64 1, .int .i64 1, .int .i64 n, .int .i64 1, .int .i64 0, .int .i64 kd, .int .i64 1, .int .i64 1, .int .i64 0, .int .i64 0, .int .i64 1, .int .i64 1, .bool s, .int .i64 0, .int .i64 0, .int .i64 0, .int .i64 0, .slice none 0 0] rfl ?_))
  intro w7 B7 f7 z7
  have HF7 := hid (HF6.out.into f7 (by have := HR.out; have := HZ1.out; omega))
  clear f7 z7
  go_wp2_with fail
  exact bodyPost_ret (v := .agg #[.int .i64 1, .int .i64 1, .int .i64 n, .int .i64 1, .int .i64 0, .int .i64 kd, .int .i64 1, .int .i64 1, .int .i64 0, .int .i64 0, .int .i64 1, .int .i64 1, .bool s, .int .i64 0, .int .i64 0, .int .i64 0, .int .i64 0, .slice none 0 0]) (results_cell1 rfl _ aggData rfl B7 rfl) rfl ⟨rfl, HF7.out⟩

theorem rnew17_any (w : World) : Calls Try.prog 21 #[] w fun e w' => ∃ o, e = .returned (.pointer (some ⟨o, 0, none⟩)) ∧ Blk w' o #[.int .i64 0] 74 ∧ Fr (fun _ => False) w w' ∧ w.heap.size ≤ o := by
  go_enter Try.func21, Try.ntmps21
  go_wp2
  go_ret
  exact ⟨_, rfl, Blk.new _ _ _, (Fr.refl _ _).alloc _, Nat.le_refl _⟩
theorem rnew14_any (w : World) : Calls Try.prog 22 #[] w fun e w' => ∃ o, e = .returned (.pointer (some ⟨o, 0, none⟩)) ∧ Blk w' o #[.slice none 0 0, .int .i64 0] 76 ∧ Fr (fun _ => False) w w' ∧ w.heap.size ≤ o := by
  go_enter Try.func22, Try.ntmps22
  go_wp2
  go_ret
  exact ⟨_, rfl, Blk.new _ _ _, (Fr.refl _ _).alloc _, Nat.le_refl _⟩
theorem rdone_any {w : World} {o : Nat} {d : Int} (h : Blk w o #[.int .i64 d] 74) : Calls Try.prog 25 #[.pointer (some ⟨o, 0, none⟩)] w fun e w' => e = .returned (.int .i64 d) ∧ w = w' := by
  have c1 : w.cell? ⟨o, 0, none⟩ = some (.int .i64 d) := Blk.cell h 0 rfl
  go_enter Try.func25, Try.ntmps25
  go_wp2_with fail
  go_ret
  exact ⟨rfl, rfl⟩
end Go.Proofs.Ytclaggjlacinlaa
