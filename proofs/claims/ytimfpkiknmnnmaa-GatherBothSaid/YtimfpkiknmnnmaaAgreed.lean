/-
  WHETHER A GATHERING IS AGREED. Conditions: as for the other calls.
-/
import Derived.Test.YtimfpkiknmnnmaaHeard
namespace Go.Proofs.Ytimfpkiknmnnmaa
open Go.RowKit

def agr (N : Int) (L : List J3) : Bool := L.all fun j => decide (j.2.1 = (crew N L : Nat))
theorem jv_inj {a b : J3} (h : jv a = jv b) : a = b := by
  obtain ⟨a, b, c⟩ := a
  simp only [jv, Value.agg.injEq, Array.mk.injEq, List.cons.injEq, Value.int.injEq, true_and, and_true] at h
  obtain ⟨h1, h2, h3⟩ := h
  subst h1; subst h2; subst h3; rfl

set_option maxRecDepth 100000 in
theorem agreed_any {g b : Nat} {N C T : Int} {L : List J3} (w : World) (h : GS w g b N C T L) : Calls Try.prog 15 #[.pointer (some ⟨g, 0, none⟩)] w fun e w' => e = .returned (.bool (agr N L)) ∧ Fr (fun _ => False) w w' := by
  go_enter Try.func15, Try.ntmps15
  go_wp2_with fail
  refine (none_any w h).mono ?_
  rintro e w1 ⟨rfl, rfl⟩
  go_wp2_with fail
  refine (heard_any w h).mono ?_
  rintro e w1 ⟨rfl, f1⟩
  have h1 := h.keep0 f1
  have c3 := h1.blk.cell 3 rfl
  obtain ⟨es, clock, hb, hnd, hst, hes, hmem⟩ := es_of h1.map
  have hrg := run_range_map (P := Try.prog) w1 52 3 34 b es clock Try.underlying52 hb
  have HI := hid (IterIs.new hb)
  have HE := hid hes
  have HM := hid hmem
  have HND := hid hnd
  have HST := hid hst
  have HA : Hid (agr N L = L.all fun j => decide (j.2.1 = (crew N L : Nat))) := hid rfl
  generalize crew N L = H at *
  clear hes hmem hnd hst
  go_wp2_with fail
  clear hrg c3
  have f0 : Fr (fun _ => False) w (w1.alloc (.mapIter (some b) clock #[] clock)) := f1.alloc _
  have hz : w.heap.size ≤ w1.heap.size := f1.size
  have hbz := lt_of_block hb
  generalize w1.alloc (.mapIter (some b) clock #[] clock) = w0 at *
  generalize w1.heap.size = r at *
  have HZ := hid hz
  clear hz hb
  go_loopw [5] (fun _ wr => ∃ seen, (∀ e ∈ es.toList, seen.contains e.born = true → ∀ j, e.val = jv j → j.2.1 = (H : Int)) ∧ IterIs wr r b es clock seen ∧ Fr (fun _ => False) w wr) (fun _ w' => (leftOf es (w'.iterSeen r)).size)
  case atStart => exact ⟨#[], fun e _ hc => by simp at hc, HI.out, f0⟩
  case round =>
    obtain ⟨seen, hall, hit, hf⟩ := hrel
    have HIT := hid hit
    have HB := hid hall
    rcases next_at (P := Try.prog) hit HST.out with ⟨h0, hnx⟩ | ⟨e, he, w2, hnx, hit1, f2⟩
    · have HEQ : Hid (agr N L = true) := hid (by
        rw [HA.out, List.all_eq_true]
        intro j hj
        have : ((Value.int .i64 j.1, jv j) : Value × Value) ∈ L.map (fun j => (Value.int .i64 j.1, jv j)) := List.mem_map.2 ⟨j, hj, rfl⟩
        rw [← HE.out] at this
        obtain ⟨e, he, hq⟩ := List.mem_map.1 this
        simp only [Prod.mk.injEq] at hq
        exact decide_eq_true (hall e he (all_seen es seen h0 e he) j hq.2))
      clear hit hall h0
      go_wp2_with fail
      go_ret
      exact ⟨ret_bool HEQ.out.symm, hf⟩
    · have hmem := (mem_left he).1
      obtain ⟨j, hj, hk, hv⟩ := HM.out e hmem
      have hen := entry_at (P := Try.prog) hit1 hmem HND.out
      rw [hk, hv] at hnx hen
      have HL := hid (left_shrinks es seen e he)
      have HV := hid hv
      have HME := hid hmem
      have HJ := hid hj
      have f3 : Fr (fun _ => False) w w2 := hf.step f2 (fun i hi h => by have := HZ.out; omega)
      have HIT1 := hid hit1
      simp only [jv] at hnx hen
      by_cases hp : j.2.1 = (H : Int)
      · have HP := hid hp
        have hp' : (j.2.1 != (H : Int)) = false := by simp [hp]
        clear hit hall hit1 he hmem hv hp
        go_wp2_with fail
        go_roundw
        case rel =>
          refine ⟨seen.push e.born, fun x hx hc q hq => ?_, HIT1.out.keep ((Fr.refl (fun _ => False) w2).alloc _) (fun h => h) (fun h => h), f3.alloc _⟩
          rw [contains_push] at hc
          rcases Bool.or_eq_true _ _ ▸ hc with h1 | h1
          · exact HB.out x hx h1 q hq
          · have : x = e := born_inj HND.out hx HME.out (beq_iff_eq.1 h1)
            subst this
            rw [HV.out] at hq
            rw [← jv_inj hq]; exact HP.out
        case measure => rw [iter_left (HIT1.out.keep ((Fr.refl (fun _ => False) w2).alloc _) (fun h => h) (fun h => h)), iter_left HIT.out]; exact HL.out
      · have HP := hid hp
        have hp' : (j.2.1 != (H : Int)) = true := by simp [hp]
        clear hit hall hit1 he hmem hv
        go_wp2_with fail
        go_ret
        exact ⟨ret_bool (by
          rw [HA.out]; symm
          rw [List.all_eq_false]
          exact ⟨j, HJ.out, by simpa using HP.out⟩), by repeat' (first | exact f3 | with_reducible refine Fr.alloc ?_ _ | with_reducible refine Fr.setNew ?_ ?_ _)⟩
end Go.Proofs.Ytimfpkiknmnnmaa
