/-
  THE REFERENCE's GATHERING: Own. Conditions: as in RefHeard.
-/
import Derived.Test.YtimfpkiknmnnmaaRefHeard
namespace Go.Proofs.Ytimfpkiknmnnmaa
open Go.RowKit

set_option maxRecDepth 100000 in
theorem rown_any {g : Nat} {v : Value} {N C : Int} {H : List J3} (w : World) (h : RS w g v N C H) (hl : H.length ≤ 1000000) : Calls Try.prog 14 #[.pointer (some ⟨g, 0, none⟩)] w fun e w' => e = .returned (jv (N, (orL (snd N H) : Nat), C)) ∧ Fr (fun _ => False) w w' := by
  have hg := h.blk.lt
  have f1 : Fr (fun _ => False) w (w.alloc (.cells #[.int .i64 0, .int .i64 0, .int .i64 0] 34)) := (Fr.refl _ w).alloc _
  have HG1 := hid (h.keep f1)
  clear h
  have hz := Blk.new w #[.int .i64 0, .int .i64 0, .int .i64 0] 34
  go_enter Try.func14, Try.ntmps14
  go_wp2_with fail
  generalize w.alloc (.cells #[.int .i64 0, .int .i64 0, .int .i64 0] 34) = w1 at *
  have hr : w.heap.size ≤ w.heap.size := Nat.le_refl _
  generalize hR : w.heap.size = R at hz ⊢
  have HR := hid hR
  clear hR hr
  have c0 := HG1.out.blk.cell 0 rfl
  have c1 := HG1.out.blk.cell 1 rfl
  have z0 := hz.cell 0 rfl
  have z1 := hz.cell 1 rfl
  have z2 := hz.cell 2 rfl
  have y0 := hz.free 0
  have y1 := hz.free 1
  have y2 := hz.free 2
  have HZ := hid hz
  clear hz
  have hgR : g ≠ R := by have := HR.out; omega
  go_region_held3 (fun w' => w'.cell? ⟨g, 0, none⟩ = some (.int .i64 N) ∧ w'.cell? ⟨g, 1, none⟩ = some (.int .i64 C))
    (first | exact ⟨c0, c1⟩ | exact ⟨hB5.cell 0 rfl, hB5.cell 1 rfl⟩ | exact ⟨(((hB5.other hgR _).other hgR _).other hgR _).cell 0 rfl, (((hB5.other hgR _).other hgR _).other hgR _).cell 1 rfl⟩)
    (first
      | (go_at_call 31; with_reducible refine (rheard_any (r := g) (v := v) (N := N) (C := C) (H := H) _ ?hh hl).mono ?_; (case hh => first | exact HG1.out | exact HG1.out.keep ((Fr.refl _ _).drew)); rintro e w5 ⟨rfl, h5⟩; have h15 : Fr (fun _ => False) w1 w5 := (by first | exact (Fr.refl _ w1).drew.trans h5 | exact h5); have hB5 := HG1.out.blk.keep h15 (fun h => h); have hZ5 := HZ.out.keep h15 (fun h => h); have z0 := hZ5.cell 0 rfl; have z1 := hZ5.cell 1 rfl; have z2 := hZ5.cell 2 rfl; have y0 := hZ5.free 0; have y1 := hZ5.free 1; have y2 := hZ5.free 2))
  have hZ6 := (((hZ5.set 0 (.int .i64 N)).set 1 (.int .i64 (orL (snd N H) : Nat))).set 2 (.int .i64 C))
  have q0 := hZ6.cell 0 (v := .int .i64 N) rfl
  have q1 := hZ6.cell 1 (v := .int .i64 (orL (snd N H) : Nat)) rfl
  have q2 := hZ6.cell 2 (v := .int .i64 C) rfl
  have hRw : w.heap.size ≤ R := by have := HR.out; omega
  have hf : Fr (fun _ => False) w (((w5.setCell ⟨R, 0, none⟩ (.int .i64 N)).setCell ⟨R, 1, none⟩ (.int .i64 (orL (snd N H) : Nat))).setCell ⟨R, 2, none⟩ (.int .i64 C)) := (((f1.trans h15).setNew hRw _).setNew hRw _).setNew hRw _
  generalize (((w5.setCell ⟨R, 0, none⟩ (.int .i64 N)).setCell ⟨R, 1, none⟩ (.int .i64 (orL (snd N H) : Nat))).setCell ⟨R, 2, none⟩ (.int .i64 C)) = w6 at *
  clear z0 z1 z2 y0 y1 y2 hZ5 hZ6 hB5 h15 h5
  go_wp2
  refine bodyPost_ret (v := jv (N, (orL (snd N H) : Nat), C)) (by simp [results, Try.results14, go_sem, jv, q0, q1, q2]) rfl ⟨rfl, hf⟩

end Go.Proofs.Ytimfpkiknmnnmaa
