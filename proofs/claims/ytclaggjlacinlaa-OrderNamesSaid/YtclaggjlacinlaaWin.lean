/-
  A WINDOW THAT HOLDS THE STATEMENTS' OWN DATA ('one', 'old': no bodies): their making, New, own, Get. Conditions: as said.
-/
import Derived.Test.YtclaggjlacinlaaMaps
import Derived.Test.YtclaggjlacinlaaVwB
import Derived.Test.YtclaggjlacinlaaI64
import Derived.Test.YtclaggjlacinlaaBig
import Derived.Deep.RegionHeld3
import Derived.Deep.CutRange
import Derived.Deep.LoopGhost
import Derived.WalkLawsBesides
import Derived.WalkSpells
namespace Go.Proofs.Ytclaggjlacinlaa
open Go.RowKit

/-- Data of the statements' own: a number, a kind, safe or not. -/
def datv (n kd : Int) (s : Bool) : Value := .agg #[.int .i64 1, .int .i64 1, .int .i64 n, .int .i64 1, .int .i64 0, .int .i64 kd, .int .i64 1, .int .i64 1, .int .i64 0, .int .i64 0, .int .i64 1, .int .i64 1, .bool s, .int .i64 0, .int .i64 0, .int .i64 0, .int .i64 0, .slice none 0 0]
theorem aggData : AggT Try.prog 37 18 := ⟨⟨_, Try.underlying37, rfl⟩, by kernel_rfl⟩
theorem aggMsg : AggT Try.prog 35 13 := ⟨⟨_, Try.underlying35, rfl⟩, by kernel_rfl⟩
theorem zeroData (W : World) : (zeroValue 37).run Try.prog W = .ok (.agg #[.int .i64 0, .int .i64 0, .int .i64 0, .int .i64 0, .int .i64 0, .int .i64 0, .int .i64 0, .int .i64 0, .int .i64 0, .int .i64 0, .int .i64 0, .int .i64 0, .bool false, .int .i64 0, .int .i64 0, .int .i64 0, .int .i64 0, .slice none 0 0]) W := by kernel_rfl
theorem zeroMsg (W : World) : (zeroValue 35).run Try.prog W = .ok (.agg #[.int .i64 0, .int .i64 0, .int .i64 0, .int .i64 0, .int .i64 0, .int .i64 0, .int .i64 0, .bool false, .int .i64 0, .int .i64 0, .int .i64 0, .int .i64 0, .slice none 0 0]) W := by kernel_rfl
theorem one_dat (n kd : Int) (s : Bool) : ∀ u ∈ (#[.int .i64 1, .int .i64 1, .int .i64 n, .int .i64 1, .int .i64 0, .int .i64 kd, .int .i64 1, .int .i64 1, .int .i64 0, .int .i64 0, .int .i64 1, .int .i64 1, .bool s, .int .i64 0, .int .i64 0, .int .i64 0, .int .i64 0, .slice none 0 0] : Array Value).toList, u.oneCell' = true := by
  intro u hu
  simp at hu
  rcases hu with rfl | rfl | rfl | rfl | rfl | rfl | rfl | rfl | rfl | rfl | rfl | rfl | rfl | rfl | rfl | rfl | rfl | rfl <;> rfl
theorem one_zd : ∀ u ∈ (#[.int .i64 0, .int .i64 0, .int .i64 0, .int .i64 0, .int .i64 0, .int .i64 0, .int .i64 0, .int .i64 0, .int .i64 0, .int .i64 0, .int .i64 0, .int .i64 0, .bool false, .int .i64 0, .int .i64 0, .int .i64 0, .int .i64 0, .slice none 0 0] : Array Value).toList, u.oneCell' = true := by
  intro u hu
  simp at hu
  rcases hu with rfl | rfl | rfl | rfl <;> rfl
theorem one_zm : ∀ u ∈ (#[.int .i64 0, .int .i64 0, .int .i64 0, .int .i64 0, .int .i64 0, .int .i64 0, .int .i64 0, .bool false, .int .i64 0, .int .i64 0, .int .i64 0, .int .i64 0, .slice none 0 0] : Array Value).toList, u.oneCell' = true := by
  intro u hu
  simp at hu
  rcases hu with rfl | rfl | rfl | rfl <;> rfl
theorem one_msg (kd : Int) (s : Bool) : ∀ u ∈ (#[.int .i64 kd, .int .i64 1, .int .i64 1, .int .i64 0, .int .i64 0, .int .i64 1, .int .i64 1, .bool s, .int .i64 0, .int .i64 0, .int .i64 0, .int .i64 0, .slice none 0 0] : Array Value).toList, u.oneCell' = true := by
  intro u hu
  simp at hu
  rcases hu with rfl | rfl | rfl | rfl | rfl | rfl | rfl | rfl | rfl | rfl | rfl | rfl | rfl <;> rfl

theorem one_any (n : Int) (s : Bool) (w : World) : Calls Try.prog 9 #[.int .i64 n, .bool s] w fun e w' => e = .returned (.agg #[.int .i64 1, .int .i64 1, .int .i64 n, .int .i64 1, .int .i64 0, .int .i64 1, .int .i64 1, .int .i64 1, .int .i64 0, .int .i64 0, .int .i64 1, .int .i64 1, .bool s, .int .i64 0, .int .i64 0, .int .i64 0, .int .i64 0, .slice none 0 0]) ∧ Fr (fun _ => False) w w' := by
  go_enter Try.func9, Try.ntmps9
  go_wp2_with (refine wpList_new rfl 37 rfl #[.int .i64 0, .int .i64 0, .int .i64 0, .int .i64 0, .int .i64 0, .int .i64 0, .int .i64 0, .int .i64 0, .int .i64 0, .int .i64 0, .int .i64 0, .int .i64 0, .bool false, .int .i64 0, .int .i64 0, .int .i64 0, .int .i64 0, .slice none 0 0] zeroData ?_)
  intro b w1 hb B1 f1 z1
  have HB := hid hb
  clear hb z1
  go_wp2_with (refine wpList_store_part rfl 37 _ _ rfl aggData b 0 rfl B1 (.agg #[.int .i64 1, .int .i64 1, .int .i64 n, .int .i64 1, .int .i64 0, .int .i64 1, .int .i64 1, .int .i64 1, .int .i64 0, .int .i64 0, .int .i64 1, .int .i64 1, .bool s, .int .i64 0, .int .i64 0, .int .i64 0, .int .i64 0, .slice none 0 0]) rfl rfl (one_dat n 1 s) (by decide) #[.int .i64 1, .int .i64 1, .int .i64 n, .int .i64 1, .int .i64 0, .int .i64 1, .int .i64 1, .int .i64 1, .int .i64 0, .int .i64 0, .int .i64 1, .int .i64 1, .bool s, .int .i64 0, .int .i64 0, .int .i64 0, .int .i64 0, .slice none 0 0] rfl ?_)
  intro w2 hB2 f2 hz
  go_wp2_with fail
  exact bodyPost_ret (v := .agg #[.int .i64 1, .int .i64 1, .int .i64 n, .int .i64 1, .int .i64 0, .int .i64 1, .int .i64 1, .int .i64 1, .int .i64 0, .int .i64 0, .int .i64 1, .int .i64 1, .bool s, .int .i64 0, .int .i64 0, .int .i64 0, .int .i64 0, .slice none 0 0]) (results_cell1 rfl _ aggData rfl hB2 rfl) rfl ⟨rfl, f1.step f2 (fun k hk e => by have := HB.out; omega)⟩
theorem old_any (n : Int) (w : World) : Calls Try.prog 10 #[.int .i64 n] w fun e w' => e = .returned (.agg #[.int .i64 1, .int .i64 1, .int .i64 n, .int .i64 1, .int .i64 0, .int .i64 5, .int .i64 1, .int .i64 1, .int .i64 0, .int .i64 0, .int .i64 1, .int .i64 1, .bool false, .int .i64 0, .int .i64 0, .int .i64 0, .int .i64 0, .slice none 0 0]) ∧ Fr (fun _ => False) w w' := by
  go_enter Try.func10, Try.ntmps10
  go_wp2_with (refine wpList_new rfl 37 rfl #[.int .i64 0, .int .i64 0, .int .i64 0, .int .i64 0, .int .i64 0, .int .i64 0, .int .i64 0, .int .i64 0, .int .i64 0, .int .i64 0, .int .i64 0, .int .i64 0, .bool false, .int .i64 0, .int .i64 0, .int .i64 0, .int .i64 0, .slice none 0 0] zeroData ?_)
  intro r w1 hr B1 f1 z1
  have HR := hid hr
  have HF1 := hid f1
  clear hr z1 f1
  go_wp2_with fail
  refine (one_any n false w1).mono ?_
  rintro e w2 ⟨rfl, f2⟩
  have HF2 := hid (HF1.out.trans f2)
  have BR2 := B1.keep f2 (fun h => h)
  clear f2 B1
  go_wp2_with (refine wpList_new rfl 37 rfl #[.int .i64 0, .int .i64 0, .int .i64 0, .int .i64 0, .int .i64 0, .int .i64 0, .int .i64 0, .int .i64 0, .int .i64 0, .int .i64 0, .int .i64 0, .int .i64 0, .bool false, .int .i64 0, .int .i64 0, .int .i64 0, .int .i64 0, .slice none 0 0] zeroData ?_)
  intro d w3 hd B3 f3 z3
  have HD := hid hd
  have HF3 := hid (HF2.out.trans f3)
  have BR3 := BR2.keep f3 (fun h => h)
  have hrd : ¬ r = d := by have := BR2.lt; omega
  have HZ := hid HF2.out.size
  clear hd z3 f3 BR2
  go_wp2_with (refine wpList_store_part rfl 37 _ _ rfl aggData d 0 rfl B3 (.agg #[.int .i64 1, .int .i64 1, .int .i64 n, .int .i64 1, .int .i64 0, .int .i64 1, .int .i64 1, .int .i64 1, .int .i64 0, .int .i64 0, .int .i64 1, .int .i64 1, .bool false, .int .i64 0, .int .i64 0, .int .i64 0, .int .i64 0, .slice none 0 0]) rfl rfl (one_dat n 1 false) (by decide) #[.int .i64 1, .int .i64 1, .int .i64 n, .int .i64 1, .int .i64 0, .int .i64 1, .int .i64 1, .int .i64 1, .int .i64 0, .int .i64 0, .int .i64 1, .int .i64 1, .bool false, .int .i64 0, .int .i64 0, .int .i64 0, .int .i64 0, .slice none 0 0] rfl ?_)
  intro w4 B4 f4 z4
  have HF4 := hid (HF3.out.step f4 (fun k hk e => by have := HD.out; have := HZ.out; omega))
  have BR4 := BR3.keep f4 hrd
  have c5 : w4.cell? ⟨d, 5, none⟩ = some (.int .i64 1) := B4.cell 5 rfl
  have y5 := B4.free 5
  have B5 := B4.set' 5 (.int .i64 5) (ds := #[.int .i64 1, .int .i64 1, .int .i64 n, .int .i64 1, .int .i64 0, .int .i64 5, .int .i64 1, .int .i64 1, .int .i64 0, .int .i64 0, .int .i64 1, .int .i64 1, .bool false, .int .i64 0, .int .i64 0, .int .i64 0, .int .i64 0, .slice none 0 0]) rfl
  have BR5 := BR4.other (p := ⟨d, 5, none⟩) hrd (.int .i64 5)
  have HF5 := hid (HF4.out.setNew (p := ⟨d, 5, none⟩) (by have := HD.out; have := HZ.out; show w.heap.size ≤ d; omega) (.int .i64 5))
  clear B3 f4 z4 BR3 BR4
  go_wp2_with (first | (refine wpList_load_part rfl 37 _ rfl aggData d 0 rfl B5 #[.int .i64 1, .int .i64 1, .int .i64 n, .int .i64 1, .int .i64 0, .int .i64 5, .int .i64 1, .int .i64 1, .int .i64 0, .int .i64 0, .int .i64 1, .int .i64 1, .bool false, .int .i64 0, .int .i64 0, .int .i64 0, .int .i64 0, .slice none 0 0] rfl rfl ?_) | (refine wpList_store_part rfl 37 _ _ rfl aggData r 0 rfl BR5 (.agg #[.int .i64 1, .int .i64 1, .int .i64 n, .int .i64 1, .int .i64 0, .int .i64 5, .int .i64 1, .int .i64 1, .int .i64 0, .int .i64 0, .int .i64 1, .int .i64 1, .bool false, .int .i64 0, .int .i64 0, .int .i64 0, .int .i64 0, .slice none 0 0]) rfl rfl (one_dat n 5 false) (by decide) #[.int .i64 1, .int .i64 1, .int .i64 n, .int .i64 1, .int .i64 0, .int .i64 5, .int .i64 1, .int .i64 1, .int .i64 0, .int .i64 0, .int .i64 1, .int .i64 1, .bool false, .int .i64 0, .int .i64 0, .int .i64 0, .int .i64 0, .slice none 0 0] rfl ?_))
  intro w6 B6 f6 z6
  have HF6 := hid (HF5.out.step f6 (fun k hk e => by have := HR.out; omega))
  clear f6 z6
  go_wp2_with fail
  exact bodyPost_ret (v := .agg #[.int .i64 1, .int .i64 1, .int .i64 n, .int .i64 1, .int .i64 0, .int .i64 5, .int .i64 1, .int .i64 1, .int .i64 0, .int .i64 0, .int .i64 1, .int .i64 1, .bool false, .int .i64 0, .int .i64 0, .int .i64 0, .int .i64 0, .slice none 0 0]) (results_cell1 rfl _ aggData rfl B6 rfl) rfl ⟨rfl, HF6.out⟩
theorem wwnew_any (w : World) : Calls Try.prog 7 #[] w fun e w' => ∃ g b, e = .returned (.pointer (some ⟨g, 0, none⟩)) ∧ Blk w' g #[.bool true, .map (some b), .int .i64 0, .int .i64 0] 60 ∧ MapIs w' b (Value.int .i64) [] ∧ Fr (fun _ => False) w w' ∧ w.heap.size ≤ g ∧ w.heap.size ≤ b := by
  have hmm := @run_makeMap Try.prog
  go_enter Try.func7, Try.ntmps7
  go_wp2
  go_ret
  refine ⟨_, _, rfl, ?_, (MapIs.new w _).keep ((Fr.refl (fun _ => False) _).alloc _) (fun h => h), ((Fr.refl _ _).alloc _).alloc _, by omega, Nat.le_refl _⟩
  have := Blk.new (w.alloc (.map #[] 0)) #[.bool true, .map (some w.heap.size), .int .i64 0, .int .i64 0] 60
  rw [World.size_alloc] at this
  exact this
theorem clone_nil (w : World) : Calls Try.prog 29 #[.slice none 0 0] w fun e w' => e = .returned (.slice none 0 0) ∧ w = w' := by
  have hq : ∀ (w : World), (binOp .eql 33 (.slice none 0 0) (.slice none 0 0)).run Try.prog w = .ok (.bool true) w := fun w => by
    simp only [binOp]
    simp [run_equal_slice_nil w 33 5 none 0 0 Try.underlying33]
  go_enter Try.func29, Try.ntmps29
  go_wp2
  go_ret
  exact ⟨rfl, rfl⟩
theorem own_any (n kd : Int) (s : Bool) (w : World) : Calls Try.prog 20 #[.agg #[.int .i64 1, .int .i64 1, .int .i64 n, .int .i64 1, .int .i64 0, .int .i64 kd, .int .i64 1, .int .i64 1, .int .i64 0, .int .i64 0, .int .i64 1, .int .i64 1, .bool s, .int .i64 0, .int .i64 0, .int .i64 0, .int .i64 0, .slice none 0 0]] w fun e w' => e = .returned (.agg #[.int .i64 1, .int .i64 1, .int .i64 n, .int .i64 1, .int .i64 0, .int .i64 kd, .int .i64 1, .int .i64 1, .int .i64 0, .int .i64 0, .int .i64 1, .int .i64 1, .bool s, .int .i64 0, .int .i64 0, .int .i64 0, .int .i64 0, .slice none 0 0]) ∧ Fr (fun _ => False) w w' := by
  go_enter Try.func20, Try.ntmps20
  go_wp2_with (refine wpList_boxed rfl 37 _ rfl #[.int .i64 1, .int .i64 1, .int .i64 n, .int .i64 1, .int .i64 0, .int .i64 kd, .int .i64 1, .int .i64 1, .int .i64 0, .int .i64 0, .int .i64 1, .int .i64 1, .bool s, .int .i64 0, .int .i64 0, .int .i64 0, .int .i64 0, .slice none 0 0] rfl ?_)
  intro b w1 hb B1 f1 z1
  have HB := hid hb
  have w1size := hid f1.size
  clear hb z1
  go_wp2_with (refine wpList_new rfl 37 rfl #[.int .i64 0, .int .i64 0, .int .i64 0, .int .i64 0, .int .i64 0, .int .i64 0, .int .i64 0, .int .i64 0, .int .i64 0, .int .i64 0, .int .i64 0, .int .i64 0, .bool false, .int .i64 0, .int .i64 0, .int .i64 0, .int .i64 0, .slice none 0 0] zeroData ?_)
  intro r w2 hr B2 f2 z2
  have hbr : ¬ b = r := by have := B1.lt; omega
  have B1' := B1.keep f2 (fun h => h)
  have HR := hid hr
  have HF := hid (f1.trans f2)
  clear hr z2 f1 f2 B1
  have c17 : w2.cell? ⟨b, 17, none⟩ = some (.slice none 0 0) := B1'.cell 17 rfl
  have y17 := B1'.free 17
  go_wp2_with fail
  refine (clone_nil _).mono ?_
  rintro e w3 ⟨rfl, rfl⟩
  have B3 := B1'.set' 17 (.slice none 0 0) (ds := #[.int .i64 1, .int .i64 1, .int .i64 n, .int .i64 1, .int .i64 0, .int .i64 kd, .int .i64 1, .int .i64 1, .int .i64 0, .int .i64 0, .int .i64 1, .int .i64 1, .bool s, .int .i64 0, .int .i64 0, .int .i64 0, .int .i64 0, .slice none 0 0]) rfl
  have B4 := B2.other (p := ⟨b, 17, none⟩) (fun e => hbr e.symm) (.slice none 0 0)
  have HF3 := hid (HF.out.setNew (p := ⟨b, 17, none⟩) (by have := HB.out; show w.heap.size ≤ b; omega) (.slice none 0 0))
  clear HF
  go_wp2_with (first | (refine wpList_load_part rfl 37 _ rfl aggData b 0 rfl B3 #[.int .i64 1, .int .i64 1, .int .i64 n, .int .i64 1, .int .i64 0, .int .i64 kd, .int .i64 1, .int .i64 1, .int .i64 0, .int .i64 0, .int .i64 1, .int .i64 1, .bool s, .int .i64 0, .int .i64 0, .int .i64 0, .int .i64 0, .slice none 0 0] rfl rfl ?_) | (refine wpList_store_part rfl 37 _ _ rfl aggData r 0 rfl B4 (.agg #[.int .i64 1, .int .i64 1, .int .i64 n, .int .i64 1, .int .i64 0, .int .i64 kd, .int .i64 1, .int .i64 1, .int .i64 0, .int .i64 0, .int .i64 1, .int .i64 1, .bool s, .int .i64 0, .int .i64 0, .int .i64 0, .int .i64 0, .slice none 0 0]) rfl rfl (one_dat n kd s) (by decide) #[.int .i64 1, .int .i64 1, .int .i64 n, .int .i64 1, .int .i64 0, .int .i64 kd, .int .i64 1, .int .i64 1, .int .i64 0, .int .i64 0, .int .i64 1, .int .i64 1, .bool s, .int .i64 0, .int .i64 0, .int .i64 0, .int .i64 0, .slice none 0 0] rfl ?_))
  intro w4 B5 f5 z5
  have HF5 := hid (HF3.out.step f5 (fun k hk e => by have := HR.out; have := HB.out; have := w1size.out; omega))
  clear f5 z5
  go_wp2_with fail
  exact bodyPost_ret (v := .agg #[.int .i64 1, .int .i64 1, .int .i64 n, .int .i64 1, .int .i64 0, .int .i64 kd, .int .i64 1, .int .i64 1, .int .i64 0, .int .i64 0, .int .i64 1, .int .i64 1, .bool s, .int .i64 0, .int .i64 0, .int .i64 0, .int .i64 0, .slice none 0 0]) (results_cell1 rfl _ aggData rfl B5 rfl) rfl ⟨rfl, HF5.out⟩
theorem own_zero (w : World) : Calls Try.prog 20 #[.agg #[.int .i64 0, .int .i64 0, .int .i64 0, .int .i64 0, .int .i64 0, .int .i64 0, .int .i64 0, .int .i64 0, .int .i64 0, .int .i64 0, .int .i64 0, .int .i64 0, .bool false, .int .i64 0, .int .i64 0, .int .i64 0, .int .i64 0, .slice none 0 0]] w fun e w' => e = .returned (.agg #[.int .i64 0, .int .i64 0, .int .i64 0, .int .i64 0, .int .i64 0, .int .i64 0, .int .i64 0, .int .i64 0, .int .i64 0, .int .i64 0, .int .i64 0, .int .i64 0, .bool false, .int .i64 0, .int .i64 0, .int .i64 0, .int .i64 0, .slice none 0 0]) ∧ Fr (fun _ => False) w w' := by
  go_enter Try.func20, Try.ntmps20
  go_wp2_with (refine wpList_boxed rfl 37 _ rfl #[.int .i64 0, .int .i64 0, .int .i64 0, .int .i64 0, .int .i64 0, .int .i64 0, .int .i64 0, .int .i64 0, .int .i64 0, .int .i64 0, .int .i64 0, .int .i64 0, .bool false, .int .i64 0, .int .i64 0, .int .i64 0, .int .i64 0, .slice none 0 0] rfl ?_)
  intro b w1 hb B1 f1 z1
  have HB := hid hb
  have w1size := hid f1.size
  clear hb z1
  go_wp2_with (refine wpList_new rfl 37 rfl #[.int .i64 0, .int .i64 0, .int .i64 0, .int .i64 0, .int .i64 0, .int .i64 0, .int .i64 0, .int .i64 0, .int .i64 0, .int .i64 0, .int .i64 0, .int .i64 0, .bool false, .int .i64 0, .int .i64 0, .int .i64 0, .int .i64 0, .slice none 0 0] zeroData ?_)
  intro r w2 hr B2 f2 z2
  have hbr : ¬ b = r := by have := B1.lt; omega
  have B1' := B1.keep f2 (fun h => h)
  have HR := hid hr
  have HF := hid (f1.trans f2)
  clear hr z2 f1 f2 B1
  have c17 : w2.cell? ⟨b, 17, none⟩ = some (.slice none 0 0) := B1'.cell 17 rfl
  have y17 := B1'.free 17
  go_wp2_with fail
  refine (clone_nil _).mono ?_
  rintro e w3 ⟨rfl, rfl⟩
  have B3 := B1'.set' 17 (.slice none 0 0) (ds := #[.int .i64 0, .int .i64 0, .int .i64 0, .int .i64 0, .int .i64 0, .int .i64 0, .int .i64 0, .int .i64 0, .int .i64 0, .int .i64 0, .int .i64 0, .int .i64 0, .bool false, .int .i64 0, .int .i64 0, .int .i64 0, .int .i64 0, .slice none 0 0]) rfl
  have B4 := B2.other (p := ⟨b, 17, none⟩) (fun e => hbr e.symm) (.slice none 0 0)
  have HF3 := hid (HF.out.setNew (p := ⟨b, 17, none⟩) (by have := HB.out; show w.heap.size ≤ b; omega) (.slice none 0 0))
  clear HF
  go_wp2_with (first | (refine wpList_load_part rfl 37 _ rfl aggData b 0 rfl B3 #[.int .i64 0, .int .i64 0, .int .i64 0, .int .i64 0, .int .i64 0, .int .i64 0, .int .i64 0, .int .i64 0, .int .i64 0, .int .i64 0, .int .i64 0, .int .i64 0, .bool false, .int .i64 0, .int .i64 0, .int .i64 0, .int .i64 0, .slice none 0 0] rfl rfl ?_) | (refine wpList_store_part rfl 37 _ _ rfl aggData r 0 rfl B4 (.agg #[.int .i64 0, .int .i64 0, .int .i64 0, .int .i64 0, .int .i64 0, .int .i64 0, .int .i64 0, .int .i64 0, .int .i64 0, .int .i64 0, .int .i64 0, .int .i64 0, .bool false, .int .i64 0, .int .i64 0, .int .i64 0, .int .i64 0, .slice none 0 0]) rfl rfl (one_zd) (by decide) #[.int .i64 0, .int .i64 0, .int .i64 0, .int .i64 0, .int .i64 0, .int .i64 0, .int .i64 0, .int .i64 0, .int .i64 0, .int .i64 0, .int .i64 0, .int .i64 0, .bool false, .int .i64 0, .int .i64 0, .int .i64 0, .int .i64 0, .slice none 0 0] rfl ?_))
  intro w4 B5 f5 z5
  have HF5 := hid (HF3.out.step f5 (fun k hk e => by have := HR.out; have := HB.out; have := w1size.out; omega))
  clear f5 z5
  go_wp2_with fail
  exact bodyPost_ret (v := .agg #[.int .i64 0, .int .i64 0, .int .i64 0, .int .i64 0, .int .i64 0, .int .i64 0, .int .i64 0, .int .i64 0, .int .i64 0, .int .i64 0, .int .i64 0, .int .i64 0, .bool false, .int .i64 0, .int .i64 0, .int .i64 0, .int .i64 0, .slice none 0 0]) (results_cell1 rfl _ aggData rfl B5 rfl) rfl ⟨rfl, HF5.out⟩
end Go.Proofs.Ytclaggjlacinlaa
