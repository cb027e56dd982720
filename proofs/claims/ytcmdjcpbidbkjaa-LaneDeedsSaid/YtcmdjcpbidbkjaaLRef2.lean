/-
  THE DOCUMENT'S LANE: Copy, Put. Conditions: none.
-/
import Derived.Test.YtcmdjcpbidbkjaaLRef1
import Derived.Deep.CutRange
namespace Go.Proofs.Ytcmdjcpbidbkjaa
open Go.RowKit

set_option maxRecDepth 100000 in
set_option maxHeartbeats 2000000 in
theorem dcopy_any (src dst : Int) (u : Value) (bs : List Int) (w : World) (hu : Vw .u8 w u bs) (hl : bs.length ≤ 140737488355328) :
    Calls Try.prog 12 #[.agg #[.int .i64 src, .int .i64 dst, u]] w fun e w' => ∃ u', e = .returned (.agg #[.int .i64 src, .int .i64 dst, u']) ∧ w'.ownsRow 0 5 1 u' bs.length (bs.map (.int .u8)) ∧ Fr (fun _ => False) w w' ∧ Above w.heap.size (footOf u') := by
  obtain ⟨uo, uc, rfl, _⟩ := id hu
  have fA : Fr (fun _ => False) w ((w.alloc (.cells #[.int .i64 src, .int .i64 dst, .slice uo bs.length uc] 30)).alloc (.cells #[.int .i64 0, .int .i64 0, .slice none 0 0] 30)) := ((Fr.refl _ _).alloc _).alloc _
  have HP := hid ((Blk.new w #[.int .i64 src, .int .i64 dst, .slice uo bs.length uc] 30).alloc (.cells #[.int .i64 0, .int .i64 0, .slice none 0 0] 30))
  have hQ := Blk.new (w.alloc (.cells #[.int .i64 src, .int .i64 dst, .slice uo bs.length uc] 30)) #[.int .i64 0, .int .i64 0, .slice none 0 0] 30
  rw [World.size_alloc] at hQ
  have HQ := hid hQ
  have HF := hid fA
  have HV := hid (hu.keep0 fA)
  clear hu fA hQ
  go_enter Try.func12, Try.ntmps12
  go_wp2_with fail
  generalize hW : (w.alloc (.cells #[.int .i64 src, .int .i64 dst, .slice uo bs.length uc] 30)).alloc (.cells #[.int .i64 0, .int .i64 0, .slice none 0 0] 30) = wa at *
  clear hW
  have HN : Hid (w.heap.size ≠ w.heap.size + 1) := hid (by omega)
  generalize hq : w.heap.size + 1 = q at *
  have HQW : Hid (w.heap.size ≤ q) := hid (by omega)
  clear hq
  generalize hp : w.heap.size = p at *
  have HPW := hid hp
  clear hp
  have PS : Hid (∀ W, Fr (fun _ => False) wa W → W.cell? ⟨p, 0, none⟩ = some (.int .i64 src) ∧ W.cell? ⟨p, 1, none⟩ = some (.int .i64 dst) ∧ W.cell? ⟨p, 2, none⟩ = some (.slice uo bs.length uc)) := hid (fun W f => by
    have h := HP.out.keep f (fun h => h)
    exact ⟨h.cell 0 rfl, h.cell 1 rfl, h.cell 2 rfl⟩)
  have PQ : Hid (∀ W W', Fr (fun _ => False) wa W → Fr (· = q) W W' → W'.cell? ⟨p, 0, none⟩ = some (.int .i64 src) ∧ W'.cell? ⟨p, 1, none⟩ = some (.int .i64 dst) ∧ W'.cell? ⟨p, 2, none⟩ = some (.slice uo bs.length uc)) := hid (fun W W' f f2 => by
    have h := (HP.out.keep f (fun h => h)).keep f2 HN.out
    exact ⟨h.cell 0 rfl, h.cell 1 rfl, h.cell 2 rfl⟩)
  have HC := hid (fun W (h : Fr (fun _ => False) wa W) => (copyBytes_any _ bs W (HV.out.keep0 h) hl).mono (R' := fun e w' => ∃ u, e = .returned u ∧ w'.ownsRow 0 5 1 u bs.length (bs.map (.int .u8)) ∧ Fr (fun _ => False) wa w' ∧ Above wa.heap.size (footOf u)) fun e w' ⟨u, q1, q2, q3, q4⟩ => ⟨u, q1, q2, h.trans q3, fun k hk => Nat.le_trans h.size (q4 k hk)⟩)
  have hacc := Fr.refl (fun _ => False) wa
  have z0 := HQ.out.cell 0 rfl
  have z1 := HQ.out.cell 1 rfl
  have z2 := HQ.out.cell 2 rfl
  have y0 := HQ.out.free 0
  have y1 := HQ.out.free 1
  have y2 := HQ.out.free 2
  go_region_held3 (fun w' => w'.cell? ⟨p, 0, none⟩ = some (.int .i64 src) ∧ w'.cell? ⟨p, 1, none⟩ = some (.int .i64 dst) ∧ w'.cell? ⟨p, 2, none⟩ = some (.slice uo bs.length uc))
    ((first | (refine PS.out _ ?_; (repeat' (first | with_reducible exact hacc | with_reducible refine Fr.drew ?_)); done) | exact PQ.out _ _ hacc ((((Fr.refl _ _).set1 0 _).set1 1 _).set1 2 _)))
    (first
      | (go_at_call 27; with_reducible refine (HC.out _ ?hh).mono ?_; (case hh => (repeat' (first | with_reducible exact hacc | with_reducible refine Fr.drew ?_))); rintro e w5 ⟨u, rfl, hrow, hacc, hab⟩; obtain ⟨ua, ucc, rfl⟩ := rowN_shape hrow; have kQ := HQ.out.keep hacc (fun h => h); have z0 := kQ.cell 0 rfl; have z1 := kQ.cell 1 rfl; have z2 := kQ.cell 2 rfl; have y0 := kQ.free 0; have y1 := kQ.free 1; have y2 := kQ.free 2))
  all_goals
    go_wp2_with fail
    have kq := (((HQ.out.keep hacc (fun h => h)).set' 0 (.int .i64 src) rfl).set' 1 (.int .i64 dst) rfl).set' 2 (.slice ua bs.length ucc) rfl
    have r0 := kq.cell 0 rfl
    have r1 := kq.cell 1 rfl
    have r2 := kq.cell 2 rfl
    have hrw := row_keep hrow ((((Fr.refl (· = q) w5).set1 0 (.int .i64 src)).set1 1 (.int .i64 dst)).set1 2 (.slice ua bs.length ucc)) (fun k hk e => by
      subst e
      obtain ⟨cs, bl⟩ := row_type hrow hk
      exact absurd (bl.type kQ) (by decide))
    have hwq : w.heap.size ≤ q := by have := HPW.out; have := HQW.out; omega
    have hfr : Fr (fun _ => False) w (((w5.setCell ⟨q, 0, none⟩ (.int .i64 src)).setCell ⟨q, 1, none⟩ (.int .i64 dst)).setCell ⟨q, 2, none⟩ (.slice ua bs.length ucc)) :=
      (((HF.out.trans hacc).setNew (p := ⟨q, 0, none⟩) hwq _).setNew (p := ⟨q, 1, none⟩) hwq _).setNew (p := ⟨q, 2, none⟩) hwq _
    have habw : Above w.heap.size (footOf (.slice ua bs.length ucc)) := fun k hk => Nat.le_trans HF.out.size (hab k hk)
    clear kq hrow hacc hab kQ z0 z1 z2 y0 y1 y2
    exact bodyPost_ret (v := .agg #[.int .i64 src, .int .i64 dst, .slice ua bs.length ucc]) (by simp [results, Try.results12, go_sem, r0, r1, r2]) rfl ⟨_, rfl, hrw, hfr, habw⟩

theorem rput_arg {w0 w : World} {g q : Nat} {side sr : Int} {v vb : Value} {ds es : List Dg} (src dst : Int) (uo : Option Addr) (un uc : Nat) (h : TW w0 w g side v ds q sr vb es) (h1 : (nodeB src && nodeB dst) = false) :
    Calls Try.prog 11 #[.pointer (some ⟨q, 0, none⟩), .agg #[.int .i64 src, .int .i64 dst, .slice uo un uc]] w fun e w' => e = .returned (.int .i64 2) ∧ TW w0 w' g side v ds q sr vb es ∧ Fr (fun _ => False) w w' := by
  have f1 : Fr (fun _ => False) w (w.alloc (.cells #[.int .i64 src, .int .i64 dst, .slice uo un uc] 30)) := (Fr.refl _ _).alloc _
  have HP := hid (Blk.new w #[.int .i64 src, .int .i64 dst, .slice uo un uc] 30)
  have HT := hid (h.keep f1)
  have HF1 := hid f1
  have N1 := hid fun W => rnode_any src W
  have N2 := hid fun W => rnode_any dst W
  clear h f1
  have hcs : nodeB src = false ∨ (nodeB src = true ∧ nodeB dst = false) := by
    cases ha : nodeB src with
    | false => exact .inl rfl
    | true => rw [ha] at h1; exact .inr ⟨rfl, by simpa using h1⟩
  clear h1
  have p0 := HP.out.cell 0 rfl
  have p1 := HP.out.cell 1 rfl
  rcases hcs with h1 | ⟨h1, h2⟩
  · go_enter Try.func11, Try.ntmps11
    go_wp2_with fail
    refine (N1.out _).mono ?_
    rintro e w2 ⟨rfl, rfl⟩
    rw [h1]
    go_wp2_with fail
    go_ret
    exact ⟨rfl, HT.out, HF1.out⟩
  · go_enter Try.func11, Try.ntmps11
    go_wp2_with fail
    refine (N1.out _).mono ?_
    rintro e w2 ⟨rfl, rfl⟩
    rw [h1]
    go_wp2_with fail
    refine (N2.out _).mono ?_
    rintro e w2 ⟨rfl, rfl⟩
    rw [h2]
    go_wp2_with fail
    go_ret
    exact ⟨rfl, HT.out, HF1.out⟩
theorem rput_full {w0 w : World} {g q : Nat} {side sr : Int} {v vb : Value} {ds es : List Dg} (src dst : Int) (uo : Option Addr) (un uc : Nat) (h : TW w0 w g side v ds q sr vb es) (h1 : nodeB src = true) (h2 : nodeB dst = true) (hn : 4096 ≤ es.length) :
    Calls Try.prog 11 #[.pointer (some ⟨q, 0, none⟩), .agg #[.int .i64 src, .int .i64 dst, .slice uo un uc]] w fun e w' => e = .returned (.int .i64 7) ∧ TW w0 w' g side v ds q sr vb es ∧ Fr (fun _ => False) w w' := by
  have f1 : Fr (fun _ => False) w (w.alloc (.cells #[.int .i64 src, .int .i64 dst, .slice uo un uc] 30)) := (Fr.refl _ _).alloc _
  have HP := hid (Blk.new w #[.int .i64 src, .int .i64 dst, .slice uo un uc] 30)
  have HT := hid (h.keep f1)
  have HF1 := hid f1
  have N1 := hid fun W => rnode_any src W
  have N2 := hid fun W => rnode_any dst W
  have p0 := HP.out.cell 0 rfl
  have p1 := HP.out.cell 1 rfl
  obtain ⟨ao, cap, rfl⟩ := rowN_shape h.lb.bk.row
  have c0 : (w.alloc (.cells #[.int .i64 src, .int .i64 dst, .slice uo un uc] 30)).cell? ⟨q, 0, none⟩ = some (.slice ao es.length cap) := HT.out.rb.cell 0 rfl
  have hn' : (4096 : Int) ≤ (es.length : Int) := by omega
  clear h f1 hn
  go_enter Try.func11, Try.ntmps11
  go_wp2_with fail
  refine (N1.out _).mono ?_
  rintro e w2 ⟨rfl, rfl⟩
  rw [h1]
  go_wp2_with fail
  refine (N2.out _).mono ?_
  rintro e w2 ⟨rfl, rfl⟩
  rw [h2]
  go_wp2_with fail
  go_ret
  exact ⟨rfl, HT.out, HF1.out⟩
end Go.Proofs.Ytcmdjcpbidbkjaa
