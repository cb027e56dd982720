/-
  KEYS OF mark AS KEYS OF A MAP. Conditions: none.
-/
import Derived.Test.YtfhhcbacnlakiaaMapsK
import Derived.Test.YtfhhcbacnlakiaaMarkArgs
namespace Go.Proofs.Ytfhhcbacnlakiaa
open Go.RowKit

abbrev K4 := Int × Int × Int × Int
def kv (k : K4) : Value := .agg #[.int .i64 k.1, .int .i64 k.2.1, .int .i64 k.2.2.1, .int .i64 k.2.2.2]
theorem check_key (k : K4) (e : Bool) (w : World) : (Instr.checkKey e 10000 25 (kv k)).run Try.prog w = .ok () w := by
  unfold Instr.checkKey
  simp [run_underlying Try.underlying25, kv, go_sem]
  unfold Instr.checkKey
  simp [run_underlying Try.underlying3, run_underlying Try.underlying23, go_sem]
  unfold Instr.checkKey
  simp [run_underlying Try.underlying3, go_sem]
theorem equal_key (a b : K4) (w : World) : (Op.equal 25 (kv a) (kv b)).run Try.prog w = .ok (decide (a = b)) w := by
  have h := run_eql_key w a.1 a.2.1 a.2.2.1 a.2.2.2 b.1 b.2.1 b.2.2.1 b.2.2.2
  have hd : decide (a = b) = decide (a.1 = b.1 ∧ a.2.1 = b.2.1 ∧ a.2.2.1 = b.2.2.1 ∧ a.2.2.2 = b.2.2.2) := by
    obtain ⟨s, x, y, q⟩ := a
    obtain ⟨t, c, d, r⟩ := b
    simp
  rw [hd]
  simp only [binOp, Sem.run_bind] at h
  cases hh : (Op.equal 25 (kv a) (kv b)).run Try.prog w with
  | ok x w' =>
    have hh' := hh
    unfold kv at hh'
    rw [hh'] at h
    simp at h
    rw [h.1, h.2]
    simp
  | _ => have hh' := hh; unfold kv at hh'; rw [hh'] at h; simp [Result.andThen] at h
theorem keyKey : KeyOk Try.prog 25 kv := struct_keyOk Try.underlying25 check_key equal_key (fun a => by simp [Instr.sameBits, kv])
theorem kcmp_zero (a b : K4) : kcmp a.1 a.2.1 a.2.2.1 a.2.2.2 b.1 b.2.1 b.2.2.1 b.2.2.2 = 0 ↔ a = b := by
  obtain ⟨s, x, y, q⟩ := a
  obtain ⟨t, c, d, r⟩ := b
  simp only [Prod.mk.injEq]
  unfold kcmp or3 or2 rcmp or2 c3
  constructor
  · intro h
    repeat' split at h
    all_goals omega
  · rintro ⟨rfl, rfl, rfl, rfl⟩
    simp
end Go.Proofs.Ytfhhcbacnlakiaa
