/-
  LANES THAT ARE NONE: nil, or made by nobody. Conditions: none.
-/
import Derived.Test.YtcmdjcpbidbkjaaLaneC
namespace Go.Proofs.Ytcmdjcpbidbkjaa
open Go.RowKit

def NoL (w : World) (p : Value) : Prop := p = .pointer none ∨ ∃ g, p = .pointer (some ⟨g, 0, none⟩) ∧ Blk w g #[.bool false, .int .i64 0, .slice none 0 0] 50
theorem NoL.keep {w w' : World} {p : Value} (h : NoL w p) (f : Fr (fun _ => False) w w') : NoL w' p := by
  rcases h with h | ⟨g, h, b⟩
  · exact .inl h
  · exact .inr ⟨g, h, b.keep f (fun h => h)⟩
theorem lno_none (p : Value) (w : World) (h : NoL w p) : Calls Try.prog 29 #[p] w fun e w' => e = .returned (.bool true) ∧ w = w' := by
  rcases h with rfl | ⟨g, rfl, hb⟩
  · go_enter Try.func29, Try.ntmps29
    go_wp2
    go_ret
    exact ⟨rfl, rfl⟩
  · have c1 := hb.cell 0 rfl
    go_enter Try.func29, Try.ntmps29
    go_wp2
    go_ret
    exact ⟨rfl, rfl⟩
theorem lno_check (p : Value) (i : Int) (w : World) (h : NoL w p) : Calls Try.prog 33 #[p, .int .i64 i] w fun e w' => e = .returned (.int .i64 1) ∧ w = w' := by
  have HN := hid (lno_none p w h)
  clear h
  go_enter Try.func33, Try.ntmps33
  go_wp2_with fail
  refine HN.out.mono ?_
  rintro e w1 ⟨rfl, rfl⟩
  go_wp2_with fail
  go_ret
  exact ⟨rfl, rfl⟩
theorem lno_len (p : Value) (w : World) (h : NoL w p) : Calls Try.prog 22 #[p] w fun e w' => e = .returned (.int .i64 0) ∧ w = w' := by
  have HN := hid (lno_none p w h)
  clear h
  go_enter Try.func22, Try.ntmps22
  go_wp2_with fail
  refine HN.out.mono ?_
  rintro e w1 ⟨rfl, rfl⟩
  go_wp2_with fail
  go_ret
  exact ⟨rfl, rfl⟩
theorem lno_cut (p : Value) (s : Int) (w : World) (h : NoL w p) : Calls Try.prog 20 #[p, .int .i64 s] w fun e w' => e = .returned (.int .i64 1) ∧ w = w' := by
  have HN := hid (lno_none p w h)
  clear h
  go_enter Try.func20, Try.ntmps20
  go_wp2_with fail
  refine HN.out.mono ?_
  rintro e w1 ⟨rfl, rfl⟩
  go_wp2_with fail
  go_ret
  exact ⟨rfl, rfl⟩
theorem lno_double (p : Value) (s : Int) (w : World) (h : NoL w p) : Calls Try.prog 16 #[p, .int .i64 s] w fun e w' => e = .returned (.int .i64 1) ∧ w = w' := by
  have HN := hid (lno_check p s w h)
  clear h
  go_enter Try.func16, Try.ntmps16
  go_wp2_with fail
  refine HN.out.mono ?_
  rintro e w1 ⟨rfl, rfl⟩
  go_wp2_with fail
  go_ret
  exact ⟨rfl, rfl⟩
theorem lno_flip (p : Value) (s b : Int) (w : World) (h : NoL w p) : Calls Try.prog 18 #[p, .int .i64 s, .int .i64 b] w fun e w' => e = .returned (.int .i64 1) ∧ w = w' := by
  have HN := hid (lno_check p s w h)
  clear h
  go_enter Try.func18, Try.ntmps18
  go_wp2_with fail
  refine HN.out.mono ?_
  rintro e w1 ⟨rfl, rfl⟩
  go_wp2_with fail
  go_ret
  exact ⟨rfl, rfl⟩
theorem lno_put (p : Value) (src dst : Int) (uo : Option Addr) (un uc : Nat) (w : World) (h : NoL w p) :
    Calls Try.prog 10 #[p, .agg #[.int .i64 src, .int .i64 dst, .slice uo un uc]] w fun e w' => e = .returned (.int .i64 1) ∧ Fr (fun _ => False) w w' := by
  have f1 : Fr (fun _ => False) w (w.alloc (.cells #[.int .i64 src, .int .i64 dst, .slice uo un uc] 30)) := (Fr.refl _ _).alloc _
  have HN := hid (lno_none p _ (h.keep f1))
  have HF1 := hid f1
  clear h f1
  go_enter Try.func10, Try.ntmps10
  go_wp2_with fail
  generalize hW1 : w.alloc (.cells #[.int .i64 src, .int .i64 dst, .slice uo un uc] 30) = w1 at *
  clear hW1
  refine HN.out.mono ?_
  rintro e w2 ⟨rfl, rfl⟩
  go_wp2_with fail
  go_ret
  exact ⟨rfl, HF1.out⟩
theorem lno_take (p : Value) (i : Int) (w : World) (h : NoL w p) :
    Calls Try.prog 13 #[p, .int .i64 i] w fun e w' => e = .returned (.tuple #[.agg #[.int .i64 0, .int .i64 0, .slice none 0 0], .int .i64 1]) ∧ Fr (fun _ => False) w w' := by
  have f1 : Fr (fun _ => False) w (w.alloc (.cells #[.int .i64 0, .int .i64 0, .slice none 0 0] 30)) := (Fr.refl _ _).alloc _
  have HP := hid (Blk.new w #[.int .i64 0, .int .i64 0, .slice none 0 0] 30)
  have HCK := hid (lno_check p i _ (h.keep f1))
  have HF1 := hid f1
  clear h f1
  go_enter Try.func13, Try.ntmps13
  go_wp2_with fail
  refine HCK.out.mono ?_
  rintro e w2 ⟨rfl, rfl⟩
  generalize hW1 : w.alloc (.cells #[.int .i64 0, .int .i64 0, .slice none 0 0] 30) = w1 at *
  clear hW1
  have hbl := HP.out.lt
  generalize hB : w.heap.size = b at HP hbl ⊢
  have HBE := hid hB
  have p0 := HP.out.cell 0 rfl
  have p1 := HP.out.cell 1 rfl
  have p2 := HP.out.cell 2 rfl
  have z0 := HP.out.free 0
  have z1 := HP.out.free 1
  have z2 := HP.out.free 2
  clear hB hbl
  go_wp2_with fail
  have HPZ := ((HP.out.set' 0 (.int .i64 0) rfl).set' 1 (.int .i64 0) rfl).set' 2 (.slice none 0 0) rfl
  have r0 := HPZ.cell 0 rfl
  have r1 := HPZ.cell 1 rfl
  have r2 := HPZ.cell 2 rfl
  have hfz : Fr (fun _ => False) w (((w1.setCell ⟨b, 0, none⟩ (.int .i64 0)).setCell ⟨b, 1, none⟩ (.int .i64 0)).setCell ⟨b, 2, none⟩ (.slice none 0 0)) := HF1.out.step ((((Fr.refl (· = b) w1).set1 0 _).set1 1 _).set1 2 _) (fun k hk e => by have := HBE.out; omega)
  clear HPZ p0 p1 p2 z0 z1 z2
  exact bodyPost_ret (v := .tuple #[.agg #[.int .i64 0, .int .i64 0, .slice none 0 0], .int .i64 1]) (by simp [results, Try.results13, go_sem, r0, r1, r2]) rfl ⟨rfl, hfz⟩
theorem lno_reach (p : Value) (a b : Int) (w : World) (h : NoL w p) : Calls Try.prog 24 #[p, .int .i64 a, .int .i64 b] w fun e w' => e = .returned (.bool false) ∧ ∃ m, w' = w.drewN m := by
  have HN := hid fun n => same_q (lno_none p (w.drewN n) (h.keep ((Fr.refl (fun _ => False) w).drewN n))) rfl
  clear h
  go_enter Try.func24, Try.ntmps24
  go_wp2_with fail
  go_quiet (first | (go_at_call 29; with_reducible refine Calls.quiet_of_same (HN.out _)))
  all_goals
    go_wp2_with fail
    go_ret
    exact ⟨rfl, _, rfl⟩
end Go.Proofs.Ytcmdjcpbidbkjaa
