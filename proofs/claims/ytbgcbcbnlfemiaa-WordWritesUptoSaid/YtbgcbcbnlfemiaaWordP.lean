/-
  A WRITER: Put out of range; the statements' own 'put'. Conditions: as in XWord.
-/
import Derived.Test.YtbgcbcbnlfemiaaWord
namespace Go.Proofs.Ytbgcbcbnlfemiaa
open Go.RowKit

theorem wput_bad {g : Nat} {v : Value} {xs : List Int} (V : Int) (w : World) (h : WS w g v xs) (hV : V < 0 ∨ 9007199254740991 < V) :
    Calls Try.prog 25 #[.pointer (some ⟨g, 0, none⟩), .int .i64 V] w fun e w' => e = .returned (.int .i64 9) ∧ w = w' := by
  have HN := hid (wnone_any w h)
  clear h
  have hcs : V < 0 ∨ (¬ V < 0 ∧ 9007199254740991 < V) := by omega
  clear hV
  rcases hcs with h1 | ⟨h1, h2⟩
  all_goals
    go_enter Try.func25, Try.ntmps25
    go_wp2_with fail
    refine HN.out.mono ?_
    rintro e w1 ⟨rfl, rfl⟩
    go_wp2_with fail
    go_ret
    exact ⟨rfl, rfl⟩

theorem vbF_len (n x : Nat) : (vbF n x).length ≤ n + 1 := by
  induction n generalizing x with
  | zero => simp [vbF]
  | succ n ih =>
    unfold vbF
    split
    · simp
    · have := ih (x / 128)
      simp only [List.length_cons]; omega
set_option maxRecDepth 100000 in
theorem put_any (V : Nat) (w : World) (hV : V ≤ 9007199254740991) : Calls Try.prog 22 #[.int .i64 (V : Int)] w fun e w' => ∃ v', e = .returned v' ∧ w'.ownsRow 0 5 1 v' (vb V).length ((vb V).map (.int .u8)) ∧ Fr (fun _ => False) w w' ∧ Above w.heap.size (footOf v') := by
  go_enter Try.func22, Try.ntmps22
  go_wp2_with fail
  refine (write_any w).mono ?_
  rintro e w1 ⟨g, rfl, hW, f1, hg⟩
  have HW := hid hW
  have HF1 := hid f1
  clear hW f1
  go_wp2_with fail
  refine (wput_any V w1 HW.out (by simp) hV).mono ?_
  rintro e w2 ⟨v2, rfl, hW2, f2, hg2⟩
  have HW2 := hid hW2
  have HF2 : Hid (Fr (fun _ => False) w w2) := hid (HF1.out.step f2 (fun k hk h => by
    rcases h with h | h
    · omega
    · simp [footOf, Value.ownBlock] at h))
  clear hW2 f2
  have HBY := hid (bytes_any w2 HW2.out (by have := vbF_len 8 V; simp only [vb, List.nil_append]; omega))
  rw [List.nil_append] at HBY
  go_wp2_with fail
  refine HBY.out.mono ?_
  rintro e w3 ⟨v3, rfl, q1, f3, q3⟩
  obtain ⟨ao, cap, rfl⟩ := row_shape q1
  go_wp2_with fail
  go_ret
  exact ⟨_, rfl, q1, HF2.out.trans f3, fun k hk => Nat.le_trans HF2.out.size (q3 k hk)⟩
end Go.Proofs.Ytbgcbcbnlfemiaa
