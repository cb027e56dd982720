/-
  A LANE: Put, Take and Double that are refused; Double. Conditions: as in XLane.
-/
import Derived.Test.YtcmdjcpbidbkjaaLaneTake
namespace Go.Proofs.Ytcmdjcpbidbkjaa
open Go.RowKit

theorem lput_arg {g : Nat} {side : Int} {v : Value} {ds : List Dg} (src dst : Int) (uo : Option Addr) (un uc : Nat) (w : World) (h : LS w g side v ds) (h1 : (nodeB src && nodeB dst) = false) :
    Calls Try.prog 10 #[.pointer (some ⟨g, 0, none⟩), .agg #[.int .i64 src, .int .i64 dst, .slice uo un uc]] w fun e w' => e = .returned (.int .i64 2) ∧ Fr (fun _ => False) w w' := by
  have f1 : Fr (fun _ => False) w (w.alloc (.cells #[.int .i64 src, .int .i64 dst, .slice uo un uc] 30)) := (Fr.refl _ _).alloc _
  have HP := hid (Blk.new w #[.int .i64 src, .int .i64 dst, .slice uo un uc] 30)
  have HL1 := hid (h.keep f1 (fun h => h) (fun _ _ h => h))
  have HF1 := hid f1
  have N1 := hid fun W => lnode_any src W
  have N2 := hid fun W => lnode_any dst W
  clear h f1
  have hcs : nodeB src = false ∨ (nodeB src = true ∧ nodeB dst = false) := by
    cases ha : nodeB src with
    | false => exact .inl rfl
    | true => rw [ha] at h1; exact .inr ⟨rfl, by simpa using h1⟩
  clear h1
  rcases hcs with h1 | ⟨h1, h2⟩
  · go_enter Try.func10, Try.ntmps10
    go_wp2_with fail
    generalize hW1 : w.alloc (.cells #[.int .i64 src, .int .i64 dst, .slice uo un uc] 30) = w1 at *
    clear hW1
    refine (lnone_any w1 HL1.out).mono ?_
    rintro e w2 ⟨rfl, rfl⟩
    have p0 := HP.out.cell 0 rfl
    have p1 := HP.out.cell 1 rfl
    go_wp2_with fail
    refine (N1.out w1).mono ?_
    rintro e w2 ⟨rfl, rfl⟩
    rw [h1]
    go_wp2_with fail
    go_ret
    exact ⟨rfl, HF1.out⟩
  · go_enter Try.func10, Try.ntmps10
    go_wp2_with fail
    generalize hW1 : w.alloc (.cells #[.int .i64 src, .int .i64 dst, .slice uo un uc] 30) = w1 at *
    clear hW1
    refine (lnone_any w1 HL1.out).mono ?_
    rintro e w2 ⟨rfl, rfl⟩
    have p0 := HP.out.cell 0 rfl
    have p1 := HP.out.cell 1 rfl
    go_wp2_with fail
    refine (N1.out w1).mono ?_
    rintro e w2 ⟨rfl, rfl⟩
    rw [h1]
    go_wp2_with fail
    refine (N2.out w1).mono ?_
    rintro e w2 ⟨rfl, rfl⟩
    rw [h2]
    go_wp2_with fail
    go_ret
    exact ⟨rfl, HF1.out⟩
theorem lput_full {g : Nat} {side : Int} {v : Value} {ds : List Dg} (src dst : Int) (uo : Option Addr) (un uc : Nat) (w : World) (h : LS w g side v ds) (h1 : nodeB src = true) (h2 : nodeB dst = true) (hn : 4096 ≤ ds.length) :
    Calls Try.prog 10 #[.pointer (some ⟨g, 0, none⟩), .agg #[.int .i64 src, .int .i64 dst, .slice uo un uc]] w fun e w' => e = .returned (.int .i64 7) ∧ Fr (fun _ => False) w w' := by
  have f1 : Fr (fun _ => False) w (w.alloc (.cells #[.int .i64 src, .int .i64 dst, .slice uo un uc] 30)) := (Fr.refl _ _).alloc _
  have HP := hid (Blk.new w #[.int .i64 src, .int .i64 dst, .slice uo un uc] 30)
  have HL1 := hid (h.keep f1 (fun h => h) (fun _ _ h => h))
  have HF1 := hid f1
  have N1 := hid fun W => lnode_any src W
  have N2 := hid fun W => lnode_any dst W
  have hn' : (4096 : Int) ≤ (ds.length : Int) := by omega
  obtain ⟨ao, cap, rfl⟩ := rowN_shape h.dr.row
  clear h f1 hn
  go_enter Try.func10, Try.ntmps10
  go_wp2_with fail
  generalize hW1 : w.alloc (.cells #[.int .i64 src, .int .i64 dst, .slice uo un uc] 30) = w1 at *
  clear hW1
  refine (lnone_any w1 HL1.out).mono ?_
  rintro e w2 ⟨rfl, rfl⟩
  have p0 := HP.out.cell 0 rfl
  have p1 := HP.out.cell 1 rfl
  go_wp2_with fail
  refine (N1.out w1).mono ?_
  rintro e w2 ⟨rfl, rfl⟩
  rw [h1]
  go_wp2_with fail
  refine (N2.out w1).mono ?_
  rintro e w2 ⟨rfl, rfl⟩
  rw [h2]
  have c2 := HL1.out.blk.cell 2 rfl
  go_wp2_with fail
  go_ret
  exact ⟨rfl, HF1.out⟩
theorem ltake_bad {g : Nat} {side : Int} {v : Value} {ds : List Dg} (i : Int) (w : World) (h : LS w g side v ds) (hi : ¬ (0 ≤ i ∧ i < (ds.length : Int))) :
    Calls Try.prog 13 #[.pointer (some ⟨g, 0, none⟩), .int .i64 i] w fun e w' => e = .returned (.tuple #[.agg #[.int .i64 0, .int .i64 0, .slice none 0 0], .int .i64 9]) ∧ Fr (fun _ => False) w w' := by
  have f1 : Fr (fun _ => False) w (w.alloc (.cells #[.int .i64 0, .int .i64 0, .slice none 0 0] 30)) := (Fr.refl _ _).alloc _
  have HP := hid (Blk.new w #[.int .i64 0, .int .i64 0, .slice none 0 0] 30)
  have HCK := hid (lcheck_any i _ (h.keep f1 (fun h => h) (fun _ _ h => h)))
  rw [if_neg hi] at HCK
  have HF1 := hid f1
  clear h f1 hi
  go_enter Try.func13, Try.ntmps13
  go_wp2_with fail
  refine HCK.out.mono ?_
  rintro e w2 ⟨rfl, rfl⟩
  generalize hW1 : w.alloc (.cells #[.int .i64 0, .int .i64 0, .slice none 0 0] 30) = w1 at *
  clear hW1
  have hbl := HP.out.lt
  generalize hB : w.heap.size = b at HP hbl ⊢
  have HBE := hid hB
  have p0 := HP.out.cell 0 rfl
  have p1 := HP.out.cell 1 rfl
  have p2 := HP.out.cell 2 rfl
  have z0 := HP.out.free 0
  have z1 := HP.out.free 1
  have z2 := HP.out.free 2
  clear hB hbl
  go_wp2_with fail
  have HPZ := ((HP.out.set' 0 (.int .i64 0) rfl).set' 1 (.int .i64 0) rfl).set' 2 (.slice none 0 0) rfl
  have r0 := HPZ.cell 0 rfl
  have r1 := HPZ.cell 1 rfl
  have r2 := HPZ.cell 2 rfl
  have hfz : Fr (fun _ => False) w (((w1.setCell ⟨b, 0, none⟩ (.int .i64 0)).setCell ⟨b, 1, none⟩ (.int .i64 0)).setCell ⟨b, 2, none⟩ (.slice none 0 0)) := HF1.out.step ((((Fr.refl (· = b) w1).set1 0 _).set1 1 _).set1 2 _) (fun k hk e => by have := HBE.out; omega)
  clear HPZ p0 p1 p2 z0 z1 z2
  exact bodyPost_ret (v := .tuple #[.agg #[.int .i64 0, .int .i64 0, .slice none 0 0], .int .i64 9]) (by simp [results, Try.results13, go_sem, r0, r1, r2]) rfl ⟨rfl, hfz⟩
theorem ldouble_bad {g : Nat} {side : Int} {v : Value} {ds : List Dg} (i : Int) (w : World) (h : LS w g side v ds) (hi : ¬ (0 ≤ i ∧ i < (ds.length : Int))) :
    Calls Try.prog 16 #[.pointer (some ⟨g, 0, none⟩), .int .i64 i] w fun e w' => e = .returned (.int .i64 9) ∧ w = w' := by
  have HCK := hid (lcheck_any i _ h)
  rw [if_neg hi] at HCK
  clear h hi
  go_enter Try.func16, Try.ntmps16
  go_wp2_with fail
  refine HCK.out.mono ?_
  rintro e w2 ⟨rfl, rfl⟩
  go_wp2_with fail
  go_ret
  exact ⟨rfl, rfl⟩
set_option maxHeartbeats 1000000 in
theorem ldouble_at {g : Nat} {side : Int} {v : Value} {ds : List Dg} {Q : Ending → World → Prop} (i : Nat) (d : Dg) (w : World) (h : LS w g side v ds) (hd : ds[i]? = some d)
    (hp : Calls Try.prog 10 #[.pointer (some ⟨g, 0, none⟩), .agg #[.int .i64 d.src, .int .i64 d.dst, d.v]] w fun e w' => (∃ x, e = .returned (.int .i64 x)) ∧ Q e w') :
    Calls Try.prog 16 #[.pointer (some ⟨g, 0, none⟩), .int .i64 (i : Int)] w Q := by
  have hil : i < ds.length := (List.getElem?_eq_some_iff.1 hd).1
  have HCK := hid (lcheck_any (i : Int) _ h)
  rw [if_pos (by omega)] at HCK
  obtain ⟨gb, cap, rfl, _, hnc, hcm⟩ := rowN_some h.dr.row (by omega)
  obtain ⟨hc0, hc1, hc2⟩ := h.dr.at rfl hd
  obtain ⟨src, dst, u, bs⟩ := d
  simp only at hc0 hc1 hc2 hp
  have HP := hid hp
  have c2 := h.blk.cell 2 rfl
  have i0 : (0 : Int) ≤ (i : Int) := by omega
  have i1 : (i : Int) < (ds.length : Int) := by omega
  clear h hd hp hil
  go_enter Try.func16, Try.ntmps16
  go_wp2_with fail
  refine HCK.out.mono ?_
  rintro e w2 ⟨rfl, rfl⟩
  go_wp2_with fail
  refine HP.out.mono ?_
  rintro e w2 ⟨⟨x, rfl⟩, hq⟩
  have HQ := hid hq
  clear hq
  go_wp2_with fail
  exact HQ.out
end Go.Proofs.Ytcmdjcpbidbkjaa
