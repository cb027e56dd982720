/-
  WHAT Visit, New, Add, Pass OF commit ANSWER. Conditions: none.
-/
import Derived.Test.YtecngibenlcdiaaCm7
namespace Go.Proofs.Ytecngibenlcdiaa
open Go.RowKit Go.ChangeShapes Go.WideShapes Go.Deep

set_option linter.unusedSimpArgs false
theorem w64 {x : Int} (h0 : -9223372036854775808 ≤ x) (h1 : x ≤ 9223372036854775807) : wrap64 x = x := by simp only [wrap64]; omega
theorem w64n {k : Nat} (h : k < 100) : wrap64 (k : Int) = (k : Int) := w64 (by omega) (by omega)
theorem w64m {n : Nat} (h : n ≤ 8) : wrap64 (2 * (n : Int)) = 2 * (n : Int) := w64 (by omega) (by omega)
theorem emod_nat {h : Int} {n : Nat} (h0 : 0 ≤ h) : h % (n : Int) = ((h.toNat % n : Nat) : Int) := by
  obtain ⟨k, rfl⟩ : ∃ k : Nat, h = k := ⟨h.toNat, by omega⟩
  simp
def toV (c : Cm) : Int := (mem c).getD (c.h.toNat % (mem c).length) 0
def visV (c : Cm) (node : Int) : Int := if okC c then (if toV c = node then (if c.h < (mem c).length then 1 else if c.h < 2 * (mem c).length then 2 else 3) else 0) else 0

set_option maxRecDepth 100000 in
set_option maxHeartbeats 1000000 in
theorem visit_any (c : Cm) (v : Value) (node : Int) (w : World) (hv : IsEs w v c.L) : Calls Try.prog 18 #[cv c v, .int .i64 node] w fun e w' => e = .returned (.int .i64 (visV c node)) ∧ Fr (fun _ => False) w w' := by
  have HM := hid (fun W => members_any c v W)
  obtain ⟨ao, cap, rfl, hl1, hl2⟩ := hv.len
  have HC := hid (fun W (f : Fr (fun _ => False) w W) => ccheck_any c (.slice ao c.L.length cap) W (hv.keep0 f))
  have hml := mem_len c
  unfold visV
  obtain ⟨vv, hvv⟩ : ∃ vv : Int, vv = (if okC c then (if toV c = node then (if c.h < (mem c).length then 1 else if c.h < 2 * (mem c).length then 2 else 3) else 0) else 0) := ⟨_, rfl⟩
  rw [← hvv]
  have HVV := hid hvv
  clear hvv
  have HT : Hid (toV c = (mem c).getD (c.h.toNat % (mem c).length) 0) := hid rfl
  have HHD := hid (fun h => (okHead_iff c).1 (okC_head' (c := c) h))
  generalize okC c = ok at *
  generalize toV c = tv at *
  have HMM : Hid (∀ h : HeadIs c, (mem c).length ≠ 0 ∧ 1 ≤ c.h ∧ c.h ≤ 2 * (mem c).length) := hid (fun h => ⟨h.len, h.hop0, h.hop1⟩)
  generalize mem c = l at *
  have HHM := hid (fun h => HMM.out (HHD.out h))
  clear HMM HHD
  obtain ⟨s, r, m, h, L⟩ := c
  simp only [cv] at *
  obtain ⟨N, hN⟩ : ∃ N, N = L.length := ⟨_, rfl⟩
  rw [← hN] at HC HM ⊢
  clear hN hv hl1
  have HB0 := Blk.new w #[.int .i64 s, .int .i64 r, .int .i64 m, .int .i64 h, .slice ao N cap] 26
  have HF0 := (Fr.refl (fun _ => False) w).alloc (.cells #[.int .i64 s, .int .i64 r, .int .i64 m, .int .i64 h, .slice ao N cap] 26)
  go_enter Try.func18, Try.ntmps18
  go_wp2_with fail
  generalize (w.alloc (.cells #[.int .i64 s, .int .i64 r, .int .i64 m, .int .i64 h, .slice ao N cap] 26)) = w1 at *
  generalize w.heap.size = p at *
  refine (HM.out w1).mono ?_
  rintro e w2 ⟨u, rfl, hr, f2, hab⟩
  have HB2 := HB0.keep f2 (fun h => h)
  have HF2 := hid (HF0.trans f2)
  obtain ⟨uo, uc, rfl, hu1, hu2, _, hu3⟩ := row_form hr
  have HU := hid hu3
  have p0 := HB2.cell 0 rfl
  have p1 := HB2.cell 1 rfl
  have p2 := HB2.cell 2 rfl
  have p3 := HB2.cell 3 rfl
  have p4 : w2.cell? ⟨p, 4, none⟩ = some (.slice ao N cap) := HB2.cell 4 rfl
  clear HB0 HF0 f2 hab hu3 hr HM
  obtain ⟨n, hn⟩ : ∃ n, n = l.length := ⟨_, rfl⟩
  rw [← hn] at HVV HHM HT hml hu1 HU ⊢
  have HN := hid hn
  clear hn
  go_wp2_with fail
  refine (HC.out _ HF2.out).mono ?_
  rintro e w3 ⟨rfl, f3⟩
  have HB3 := HB2.keep f3 (fun h => h)
  have p3 := HB3.cell 3 rfl
  have HF3 := hid (HF2.out.trans f3)
  clear p0 p1 p2 p4 HB2 HC
  cases ok with
  | false =>
    go_wp2_with fail
    go_ret
    exact ⟨ret_int (by rw [HVV.out]; rfl), HF3.out⟩
  | true =>
    obtain ⟨hn0, hh0, hh1⟩ := HHM.out rfl
    obtain ⟨k, hk⟩ : ∃ k : Nat, k = h.toNat % n := ⟨_, rfl⟩
    have hkn : k < n := by rw [hk]; exact Nat.mod_lt _ (by omega)
    rw [← hk] at HT
    have hem : h % (n : Int) = (k : Int) := by rw [hk]; exact emod_nat (by omega)
    have htm : h.tmod (n : Int) = (k : Int) := by rw [Int.tmod_eq_emod_of_nonneg (by omega)]; exact hem
    obtain ⟨g, rfl, hg, hgc, _⟩ := HU.out k hkn
    rw [ints_get (by rw [← HN.out]; exact hkn), ← HT.out] at hgc
    have q0 := cell_fr f3 hgc
    have hwn : wrap64 (k : Int) = (k : Int) := w64n (Nat.lt_of_lt_of_le hkn (Nat.le_trans hml (by decide)))
    have hw2 : wrap64 (2 * (n : Int)) = 2 * (n : Int) := w64m hml
    have hnz : decide ((n : Int) = 0) = false := decide_eq_false (fun e => hn0 (Int.ofNat_eq_zero.1 e))
    simp only [if_true] at HVV
    clear hk HT HU HHM hgc hg f3
    by_cases h1 : tv = node
    · have hb1 : (tv != node) = false := by simp [h1]
      have HV2 := hid HVV.out
      rw [if_pos h1] at HV2
      clear h1
      by_cases h2 : h < (n : Int)
      · have hd2 : decide (h < (n : Int)) = true := decide_eq_true h2
        have HV3 := hid HV2.out
        rw [if_pos h2] at HV3
        clear h2 hem
        go_wp2_with fail
        go_ret
        exact ⟨ret_int (by rw [HV3.out]), HF3.out⟩
      · have hd2 : decide (h < (n : Int)) = false := decide_eq_false h2
        have HV3 := hid HV2.out
        rw [if_neg h2] at HV3
        clear h2 hem
        by_cases h3 : h < 2 * (n : Int)
        · have hd3 : decide (h < 2 * (n : Int)) = true := decide_eq_true h3
          have HV4 := hid HV3.out
          rw [if_pos h3] at HV4
          clear h3
          go_wp2_with fail
          go_ret
          exact ⟨ret_int (by rw [HV4.out]), HF3.out⟩
        · have hd3 : decide (h < 2 * (n : Int)) = false := decide_eq_false h3
          have HV4 := hid HV3.out
          rw [if_neg h3] at HV4
          clear h3
          go_wp2_with fail
          go_ret
          exact ⟨ret_int (by rw [HV4.out]), HF3.out⟩
    · have hb1 : (tv != node) = true := by simp [h1]
      have HV2 := hid HVV.out
      rw [if_neg h1] at HV2
      clear h1 hem
      go_wp2_with fail
      go_ret
      exact ⟨ret_int (by rw [HV2.out]), HF3.out⟩
end Go.Proofs.Ytecngibenlcdiaa
