/-
  WHAT Own, Agreed AND New OF A GATHERING ANSWER. Conditions: as for the other calls.
-/
import Derived.Test.YtimfpkiknmnnmaaHeard
namespace Go.Proofs.Ytimfpkiknmnnmaa
open Go.RowKit

theorem GS.hid {w : World} {g b : Nat} {N C T : Int} {L : List J3} (h : GS w g b N C T L) : Hid (GS w g b N C T L) := h

set_option maxRecDepth 100000 in
theorem own_any {g b : Nat} {N C T : Int} {L : List J3} (w : World) (h : GS w g b N C T L) : Calls Try.prog 13 #[.pointer (some ⟨g, 0, none⟩)] w fun e w' => e = .returned (jv (N, (crew N L : Nat), C)) ∧ Fr (fun _ => False) w w' := by
  have HG := h.hid
  have hg := h.blk.lt
  have f1 : Fr (fun _ => False) w (w.alloc (.cells #[.int .i64 0, .int .i64 0, .int .i64 0] 34)) := (Fr.refl _ w).alloc _
  have HG1 := (h.keep0 f1).hid
  clear h
  have hz := Blk.new w #[.int .i64 0, .int .i64 0, .int .i64 0] 34
  go_enter Try.func13, Try.ntmps13
  go_wp2_with fail
  generalize w.alloc (.cells #[.int .i64 0, .int .i64 0, .int .i64 0] 34) = w1 at *
  have hr : w.heap.size ≤ w.heap.size := Nat.le_refl _
  generalize hR : w.heap.size = R at hz ⊢
  have HR := hid hR
  clear hR hr
  refine (none_any w1 HG1.out).mono ?_
  rintro e w1' ⟨rfl, rfl⟩
  have c0 := HG1.out.blk.cell 0 rfl
  have c1 := HG1.out.blk.cell 1 rfl
  go_wp2_with fail
  have z0 := hz.cell 0 rfl
  have z1 := hz.cell 1 rfl
  have z2 := hz.cell 2 rfl
  have y0 := hz.free 0
  have y1 := hz.free 1
  have y2 := hz.free 2
  have HZ := hid hz
  clear hz
  have hgR : g ≠ R := by have := HR.out; omega
  go_region_held3 (fun w' => w'.cell? ⟨g, 0, none⟩ = some (.int .i64 N) ∧ w'.cell? ⟨g, 1, none⟩ = some (.int .i64 C))
    (first | exact ⟨c0, c1⟩ | exact ⟨hB5.cell 0 rfl, hB5.cell 1 rfl⟩ | exact ⟨(((hB5.other hgR _).other hgR _).other hgR _).cell 0 rfl, (((hB5.other hgR _).other hgR _).other hgR _).cell 1 rfl⟩)
    (first
      | (go_at_call 30; with_reducible refine (heard_any (g := g) (b := b) (N := N) (C := C) (T := T) (L := L) _ ?hh).mono ?_; (case hh => first | exact HG1.out | exact HG1.out.keep0 ((Fr.refl _ _).drew)); rintro e w5 ⟨rfl, h5⟩; have h15 : Fr (fun _ => False) w1 w5 := (by first | exact (Fr.refl _ w1).drew.trans h5 | exact h5); have hB5 := HG1.out.blk.keep h15 (fun h => h); have hZ5 := HZ.out.keep h15 (fun h => h); have z0 := hZ5.cell 0 rfl; have z1 := hZ5.cell 1 rfl; have z2 := hZ5.cell 2 rfl; have y0 := hZ5.free 0; have y1 := hZ5.free 1; have y2 := hZ5.free 2))
  have hZ6 := (((hZ5.set 0 (.int .i64 N)).set 1 (.int .i64 (crew N L : Nat))).set 2 (.int .i64 C))
  have q0 := hZ6.cell 0 (v := .int .i64 N) rfl
  have q1 := hZ6.cell 1 (v := .int .i64 (crew N L : Nat)) rfl
  have q2 := hZ6.cell 2 (v := .int .i64 C) rfl
  have hRw : w.heap.size ≤ R := by have := HR.out; omega
  have hf : Fr (fun _ => False) w (((w5.setCell ⟨R, 0, none⟩ (.int .i64 N)).setCell ⟨R, 1, none⟩ (.int .i64 (crew N L : Nat))).setCell ⟨R, 2, none⟩ (.int .i64 C)) := (((f1.trans h15).setNew hRw _).setNew hRw _).setNew hRw _
  generalize (((w5.setCell ⟨R, 0, none⟩ (.int .i64 N)).setCell ⟨R, 1, none⟩ (.int .i64 (crew N L : Nat))).setCell ⟨R, 2, none⟩ (.int .i64 C)) = w6 at *
  clear z0 z1 z2 y0 y1 y2 hZ5 hZ6 hB5 h15 h5
  go_wp2
  refine bodyPost_ret (v := jv (N, (crew N L : Nat), C)) (by simp [results, Try.results13, go_sem, jv, q0, q1, q2]) rfl ⟨rfl, hf⟩

set_option maxRecDepth 100000 in
theorem new_any (n c : Int) (w : World) (h1 : 1 ≤ n) (h2 : n ≤ 8) (h3 : 0 ≤ c) (h4 : c ≤ 9007199254740991) : Calls Try.prog 8 #[.int .i64 n, .int .i64 c] w fun e w' => ∃ g b, e = .returned (.tuple #[.pointer (some ⟨g, 0, none⟩), .int .i64 0]) ∧ GS w' g b n c c [] ∧ Fr (fun _ => False) w w' ∧ w.heap.size ≤ g ∧ w.heap.size ≤ b := by
  have hmm := @run_makeMap Try.prog
  have hv : numV c = true := by simp [numV, h3, h4]
  go_enter Try.func8, Try.ntmps8
  go_wp2_with fail
  refine (number_any c w).mono ?_
  rintro e w1 ⟨rfl, rfl⟩
  rw [hv]
  go_wp2_with fail
  go_ret2
  refine ⟨_, _, rfl, ⟨by have q := Blk.new (w.alloc (.map #[] 0)) #[Value.int .i64 n, Value.int .i64 c, Value.int .i64 c, Value.map (some w.heap.size)] 54; rw [World.size_alloc] at q; exact q, (MapIs.new w _).keep ((Fr.refl (fun _ => False) _).alloc _) (fun h => h), by simp, h1, h2, h3, h4, h3, h4, by simp⟩, ((Fr.refl _ w).alloc _).alloc _, by simp, by simp⟩
end Go.Proofs.Ytimfpkiknmnnmaa
