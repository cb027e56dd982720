/-
  WHAT THE CALLS 'asked' AND 'works' DO: the signs of a list of numbers; the chapter's two examples hold. Conditions: the list lies in memory as a literal does.
-/
import Derived.Test.YtoecdbolcdfbjaaFresh
import Derived.LoopTactic
import Derived.Outline
namespace Go.Proofs.Ytoecdbolcdfbjaa
open Go.RowKit

def ints (zs : List Int) : Array Value := (zs.map (Value.int .i64)).toArray

theorem ints_at {w : World} {b : Nat} {zs : List Int} {t : TypeId} (h : Blk w b (ints zs) t) {k : Nat} (hk : k < zs.length) : w.cell? ⟨b, k, none⟩ = some (.int .i64 (zs.getD k 0)) :=
  h.cell k (by simp [ints, hk])

theorem str_snoc (o : List UInt8) (x : UInt8) : ((⟨o.toArray⟩ : ByteArray) ++ (⟨#[x]⟩ : ByteArray)) = ⟨(o ++ [x]).toArray⟩ := by
  apply ByteArray.ext
  simp
theorem dig_bad {L : List Int} {n : Int} (h : (erN n != 0) = true) : dig L n = 63 := by
  unfold erN at h; unfold dig
  by_cases c : n < 1
  · rw [if_pos c]
  · rw [if_neg c] at h; simp at h
theorem dig_yes {L : List Int} {n : Int} (h : (erN n != 0) = false) (hf : isF L n = true) : dig L n = 49 := by
  unfold erN at h; unfold dig
  by_cases c : n < 1
  · rw [if_pos c] at h; simp at h
  · rw [if_neg c, if_pos hf]
theorem dig_no {L : List Int} {n : Int} (h : (erN n != 0) = false) (hf : isF L n = false) : dig L n = 48 := by
  unfold erN at h; unfold dig
  by_cases c : n < 1
  · rw [if_pos c] at h; simp at h
  · rw [if_neg c, if_neg (by simp [hf])]

def AskedPost (w : World) (zs : List Int) (e : Ending) (w' : World) : Prop :=
  e = .returned (.string ⟨(askTo zs zs.length).1.toArray⟩) ∧ Fr (fun _ => False) w w'

set_option maxRecDepth 100000 in
theorem asked_any (b : Nat) (zs : List Int) (m : Nat) (c : Nat) (w : World) (hm : m = zs.length) (hB : Blk w b (ints zs) 3) (hz : ∀ n ∈ zs, -9223372036854775808 ≤ n ∧ n ≤ 9223372036854775807) (hl : zs.length ≤ 1000) :
    Calls Try.prog 14 #[.slice (some ⟨b, 0, none⟩) m c] w (AskedPost w zs) := by
  have HM := hid hm
  have hm2 : m ≤ zs.length := by omega
  have hm3 : zs.length ≤ m := by omega
  clear hm
  go_enter Try.func14, Try.ntmps14
  go_wp2_with (go_at_call 8; refine (new_any _).mono ?_; rintro e w1 ⟨rfl, hs, hf⟩)
  go_loopw [4, 5] (fun s i wr => ∃ k : Nat, k ≤ m ∧ i = .int .i64 k ∧ s = .string ⟨(askTo zs k).1.toArray⟩ ∧ SV wr w.heap.size (askTo zs k).2 ∧ Fr (fun _ => False) w wr)
    (fun _ i _ => m - (intOf i).toNat)
  case atStart => exact ⟨0, Nat.zero_le _, rfl, rfl, hs, hf⟩
  case round =>
    obtain ⟨k, hk, rfl, rfl, hs', hf'⟩ := hrel
    clear hs hf
    by_cases hkm : k < m
    · have hB' := hB.keep hf' (fun h => h)
      have hc := ints_at hB' (k := k) (by omega)
      have hz' := hz (zs.getD k 0) (by rw [getD_eq (by omega)]; exact List.getElem_mem _)
      have HS := hid (askTo_succ (zs := zs) (k := k) (by omega))
      have hlen := askTo_len (zs := zs) (k := k) (by omega)
      generalize hn : zs.getD k 0 = n at *
      generalize hst : askTo zs k = st at *
      obtain ⟨o, L⟩ := st
      clear hn hst
      go_wp2_with (go_at_call 10; refine (fresh_any _ _ _ _ hs' hz'.1 hz'.2).mono ?_; rintro e w2 ⟨rfl, hs2, hf2⟩)
      · have h : (erN n != 0) = true := by assumption
        go_roundw
        case measure => simp [intOf]; omega
        case rel => exact ⟨k + 1, by omega, by go_num, by rw [HS.out, str_snoc]; simp only [askS, dig_bad h], by rw [HS.out]; exact hs2, hf'.step hf2 (fun i hi hh => by omega)⟩
      · have h : (erN n != 0) = false := by assumption
        have h2 : isF L n = true := by assumption
        go_roundw
        case measure => simp [intOf]; omega
        case rel => exact ⟨k + 1, by omega, by go_num, by rw [HS.out, str_snoc]; simp only [askS, dig_yes h h2], by rw [HS.out]; exact hs2, hf'.step hf2 (fun i hi hh => by omega)⟩
      · have h : (erN n != 0) = false := by assumption
        have h2 : isF L n = false := by assumption
        go_roundw
        case measure => simp [intOf]; omega
        case rel => exact ⟨k + 1, by omega, by go_num, by rw [HS.out, str_snoc]; simp only [askS, dig_no h h2], by rw [HS.out]; exact hs2, hf'.step hf2 (fun i hi hh => by omega)⟩
    · have hkm : k = zs.length := by omega
      have HK := hid hkm
      have hle : m ≤ k := by omega
      clear hkm
      go_wp2
      go_ret
      exact ⟨by rw [← HK.out]; rfl, hf'⟩

theorem asked_lit (zs : List Int) (out : Array UInt8) (m : Nat) (w0 : World) (w : World) (hw : w = w0.alloc (.cells (ints zs) 3)) (ho : (askTo zs zs.length).1.toArray = out) (hm : m = zs.length) (hz : ∀ n ∈ zs, -9223372036854775808 ≤ n ∧ n ≤ 9223372036854775807) (hl : zs.length ≤ 1000) :
    Calls Try.prog 14 #[.slice (some ⟨w0.heap.size, 0, none⟩) m m] w fun e w' => e = .returned (.string ⟨out⟩) ∧ Fr (fun _ => False) w0 w' := by
  subst hw
  exact (asked_any w0.heap.size zs m m _ hm (Blk.new _ _ _) hz hl).mono fun e w' ⟨h1, h2⟩ => ⟨by rw [h1, ho], ((Fr.refl _ _).alloc _).trans h2⟩

set_option maxRecDepth 100000 in
theorem works_any (w : World) : Calls Try.prog 12 #[] w fun e w' => e = .returned (.bool true) ∧ Fr (fun _ => False) w w' := by
  go_enter Try.func12, Try.ntmps12
  go_wp2_with fail
  refine (asked_lit [1, 2, 2, 5, 4, 3, 4] #[49, 49, 48, 49, 49, 49, 48] _ _ _ rfl (by decide) rfl (by decide) (by decide)).mono ?_
  rintro e w1 ⟨rfl, f1⟩
  go_wp2_with fail
  refine (asked_lit [70, 6, 7, 7, 200, 136, 137] #[49, 48, 49, 48, 49, 48, 49] _ _ _ rfl (by decide) rfl (by decide) (by decide)).mono ?_
  rintro e w2 ⟨rfl, f2⟩
  go_wp2_with fail
  go_ret
  exact ⟨rfl, f1.trans f2⟩

end Go.Proofs.Ytoecdbolcdfbjaa
