/-
  THE REFERENCE's GATHERING: Agreed. Conditions: as in RefHeard.
-/
import Derived.Test.YtimfpkiknmnnmaaRefOwn
namespace Go.Proofs.Ytimfpkiknmnnmaa
open Go.RowKit

def okAt (N : Int) (H : List J3) (n : Nat) : Bool := match lastR H ((n : Int) + 1) with
  | some j => decide (j.2.1 = ((orL (snd N H) : Nat) : Int))
  | none => true
def agrR (N : Int) (H : List J3) : Bool := (List.range 8).all (okAt N H)

set_option maxRecDepth 100000 in
set_option maxHeartbeats 1000000 in
theorem ragreed_any {r : Nat} {v : Value} {N C : Int} {H : List J3} (w : World) (h : RS w r v N C H) (hl : H.length ≤ 1000000) :
    Calls Try.prog 16 #[.pointer (some ⟨r, 0, none⟩)] w fun e w' => e = .returned (.bool (agrR N H)) ∧ Fr (fun _ => False) w w' := by
  have HR := hid h
  have HL := hid hl
  clear h hl
  go_enter Try.func16, Try.ntmps16
  go_wp2_with fail
  go_loopw [3] (fun i wr => ∃ n : Nat, n ≤ 8 ∧ i = .int .i64 ((n : Int) + 1) ∧ (∀ m, m < n → okAt N H m = true) ∧ Fr (fun _ => False) w wr) (fun i _ => 9 - (intOf i).toNat)
  case atStart => exact ⟨0, by omega, rfl, fun m hm => by omega, Fr.refl _ _⟩
  case round =>
    obtain ⟨n, hn, rfl, hall, hf⟩ := hrel
    have HA := hid hall
    clear hall
    by_cases hlt : n < 8
    · go_wp2_with fail
      refine (rlast_any ((n : Int) + 1) wr (HR.out.keep hf)).mono ?_
      rintro e w1 ⟨rfl, f1⟩
      have f2 := hf.trans f1
      have HO : Hid (okAt N H n = match lastR H ((n : Int) + 1) with | some j => decide (j.2.1 = ((orL (snd N H) : Nat) : Int)) | none => true) := hid rfl
      have HBAD : Hid (okAt N H n = false → agrR N H = false) := hid (fun hb => by
        unfold agrR
        rw [List.all_eq_false]
        exact ⟨n, List.mem_range.2 hlt, by rw [hb]; simp⟩)
      cases hg : lastR H ((n : Int) + 1) with
      | none =>
        rw [hg] at HO
        have HO2 := hid (show okAt N H n = true from HO.out)
        simp only [Option.map_none, Option.getD_none, Option.isSome_none, jv, j0]
        clear f1 hf
        go_wp2_with fail
        first | go_region | skip
        all_goals
          go_wp2_with fail
          go_roundw
          case rel => exact ⟨n + 1, by omega, by go_num, fun m hm => by
            by_cases e : m = n
            · rw [e]; exact HO2.out
            · exact HA.out m (by omega), by with_reducible (repeat' (first | exact f2 | refine Fr.drew ?_ | refine Fr.alloc ?_ _))⟩
          case measure => simp [intOf]; omega
      | some j =>
        rw [hg] at HO
        have HO2 := hid (show okAt N H n = decide (j.2.1 = ((orL (snd N H) : Nat) : Int)) from HO.out)
        simp only [Option.map_some, Option.getD_some, Option.isSome_some, jv]
        have HH := hid fun (W : World) (k : Fr (fun _ => False) w W) => rheard_any (r := r) (v := v) (N := N) (C := C) (H := H) W (HR.out.keep k) HL.out
        generalize ((orL (snd N H) : Nat) : Int) = X at *
        have hacc := f2
        clear f1 hf
        go_wp2_with fail
        have hz := Blk.new w1 #[.int .i64 j.1, .int .i64 j.2.1, .int .i64 j.2.2] 34
        replace hacc : Fr (fun _ => False) w (w1.alloc (.cells #[.int .i64 j.1, .int .i64 j.2.1, .int .i64 j.2.2] 34)) := hacc.alloc _
        clear f2
        generalize w1.alloc (.cells #[.int .i64 j.1, .int .i64 j.2.1, .int .i64 j.2.2] 34) = w3 at *
        generalize w1.heap.size = z at *
        have z1 := hz.cell 1 rfl
        clear hz
        obtain ⟨b, hb⟩ : ∃ b, (j.2.1 != X) = b := ⟨_, rfl⟩
        have HBB := hid hb
        go_region_held3 (fun w' => w'.cell? ⟨z, 1, none⟩ = some (.int .i64 j.2.1))
          (first | exact z1 | exact cell_fr h5 z1)
          (first
            | (go_at_call 31; with_reducible refine (HH.out _ ?hh).mono ?_; (case hh => (repeat' (first | with_reducible exact hacc | with_reducible refine Fr.drew ?_ | with_reducible refine Fr.alloc ?_ _))); rintro e w5 ⟨rfl, h5⟩; have hacc2 : Fr (fun _ => False) w w5 := (by first | exact hacc.drew.trans h5 | exact hacc.trans h5)))
        all_goals
          cases b with
          | true =>
            have hX : ¬ j.2.1 = X := by have := HBB.out; simpa using this
            have HE := hid (HBAD.out (by rw [HO2.out]; exact decide_eq_false hX))
            clear hX
            go_wp2_with fail
            go_ret
            exact ⟨ret_bool HE.out.symm, hacc2⟩
          | false =>
            have hX : j.2.1 = X := by have := HBB.out; simpa using this
            have HE := hid (show okAt N H n = true by rw [HO2.out]; exact decide_eq_true hX)
            clear hX
            go_wp2_with fail
            go_roundw
            case rel => exact ⟨n + 1, by omega, by go_num, fun m hm => by
              by_cases e : m = n
              · rw [e]; exact HE.out
              · exact HA.out m (by omega), hacc2⟩
            case measure => simp [intOf]; omega
    · have hn8 : n = 8 := by omega
      have HE : Hid (agrR N H = true) := hid (by
        unfold agrR
        rw [List.all_eq_true]
        intro m hm
        exact HA.out m (by rw [hn8]; exact List.mem_range.1 hm))
      clear hn8
      go_wp2_with fail
      go_ret
      exact ⟨ret_bool HE.out.symm, hf⟩
end Go.Proofs.Ytimfpkiknmnnmaa
