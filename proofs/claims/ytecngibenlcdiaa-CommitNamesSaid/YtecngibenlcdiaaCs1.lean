/-
  WHAT THE DOCUMENT's Visit OF COMMITS ANSWERS. Conditions: members that are an int.
-/
import Derived.Test.YtecngibenlcdiaaCd6
namespace Go.Proofs.Ytecngibenlcdiaa
open Go.RowKit Go.ChangeShapes Go.WideShapes Go.Deep

set_option linter.unusedSimpArgs false
set_option maxRecDepth 100000 in
theorem dcount_any (c : Int) (w : World) : Calls Try.prog 40 #[.int .i64 c] w fun e w' => e = .returned (.int .i64 ((lst c 8).length : Int)) ∧ Fr (fun _ => False) w w' := by
  have HL := hid (fun W => rlist_any c W)
  go_enter Try.func40, Try.ntmps40
  go_wp2_with fail
  refine (HL.out w).mono ?_
  rintro e w1 ⟨u, rfl, hr, f1, _⟩
  obtain ⟨uo, uc, rfl, hu1, hu2, _, _⟩ := row_form hr
  go_wp2_with fail
  go_ret
  exact ⟨rfl, f1⟩
/-- Of a commit that may be, to whom it is on its way. -/
theorem toD_toV {c : Cm} (h : okC c = true) : toD c = toV c := by
  have hh := (okHead_iff c).1 (okC_head' h)
  have hmem : mem c = lst c.m 8 := by unfold mem; rw [okC_mem h]; rfl
  have hm0 : c.m ≠ 0 := fun e => by
    have := hh.len
    rw [hmem, e] at this
    exact this (by decide)
  have h1 := hh.hop0
  unfold toD toV
  rw [okC_mem h, decide_eq_false hm0, decide_eq_false (by omega), hmem]
  rfl
set_option maxRecDepth 100000 in
set_option maxHeartbeats 1000000 in
theorem dvisit_any (c : Cm) (v : Value) (node : Int) (w : World) (hm : Big c.m) (hv : IsEs w v c.L) : Calls Try.prog 19 #[cv c v, .int .i64 node] w fun e w' => e = .returned (.int .i64 (visV c node)) ∧ Fr (fun _ => False) w w' := by
  obtain ⟨ao, cap, rfl, hl1, hl2⟩ := hv.len
  have HC := hid (fun W (f : Fr (fun _ => False) w W) => dcheck_any c (.slice ao c.L.length cap) W hm (hv.keep0 f))
  have HT := hid (fun W => dto_any c (.slice ao c.L.length cap) W hm)
  have HN := hid (fun W => dcount_any c.m W)
  unfold visV
  cases hok : okC c with
  | false =>
    rw [hok] at HC
    obtain ⟨s, r, m, h, L⟩ := c
    simp only [cv] at *
    go_enter Try.func19, Try.ntmps19
    go_wp2_with fail
    with_reducible refine (HC.out _ ((Fr.refl _ _).alloc _)).mono ?_
    rintro e w2 ⟨rfl, f2⟩
    go_wp2_with fail
    go_ret
    exact ⟨rfl, ((Fr.refl _ _).alloc _).trans f2⟩
  | true =>
    rw [hok] at HC
    rw [toD_toV hok] at HT
    have hmem : mem c = lst c.m 8 := by unfold mem; rw [okC_mem hok]; rfl
    have hn8 : (mem c).length ≤ 8 := mem_len c
    rw [← hmem] at HN
    obtain ⟨vv, hvv⟩ : ∃ vv : Int, vv = (if toV c = node then (if c.h < (mem c).length then 1 else if c.h < 2 * (mem c).length then 2 else 3) else 0) := ⟨_, rfl⟩
    simp only [if_true]
    rw [← hvv]
    have HVV := hid hvv
    clear hvv hok hmem
    generalize toV c = tv at *
    generalize (mem c).length = n at *
    obtain ⟨s, r, m, h, L⟩ := c
    simp only [cv] at *
    obtain ⟨N, hN⟩ : ∃ N, N = L.length := ⟨_, rfl⟩
    rw [← hN] at HC HT ⊢
    clear hN hv hl1
    have HB0 := Blk.new w #[.int .i64 s, .int .i64 r, .int .i64 m, .int .i64 h, .slice ao N cap] 26
    have HF0 := (Fr.refl (fun _ => False) w).alloc (.cells #[.int .i64 s, .int .i64 r, .int .i64 m, .int .i64 h, .slice ao N cap] 26)
    go_enter Try.func19, Try.ntmps19
    go_wp2_with fail
    generalize (w.alloc (.cells #[.int .i64 s, .int .i64 r, .int .i64 m, .int .i64 h, .slice ao N cap] 26)) = w1 at *
    generalize w.heap.size = p at *
    with_reducible refine (HC.out _ HF0).mono ?_
    rintro e w2 ⟨rfl, f2⟩
    have HF2 := hid (HF0.trans f2)
    have HB2 := hid (HB0.keep f2 (fun h => h))
    clear HB0 HF0 f2 HC
    have p0 := HB2.out.cell 0 rfl
    have p1 := HB2.out.cell 1 rfl
    have p2 := HB2.out.cell 2 rfl
    have p3 := HB2.out.cell 3 rfl
    have p4 : w2.cell? ⟨p, 4, none⟩ = some (.slice ao N cap) := HB2.out.cell 4 rfl
    go_wp2_with fail
    with_reducible refine (HT.out _).mono ?_
    rintro e w3 ⟨rfl, f3⟩
    have HF3 := hid (HF2.out.trans f3)
    have HB3 := hid (HB2.out.keep f3 (fun h => h))
    clear p0 p1 p2 p3 p4 f3 HT
    by_cases h1 : tv = node
    · have hb1 : (tv != node) = false := by simp [h1]
      have HV2 := hid HVV.out
      rw [if_pos h1] at HV2
      clear h1
      have p2 := HB3.out.cell 2 rfl
      go_wp2_with fail
      with_reducible refine (HN.out _).mono ?_
      rintro e w4 ⟨rfl, f4⟩
      have HF4 := hid (HF3.out.trans f4)
      have p3 := (HB3.out.keep f4 (fun h => h)).cell 3 rfl
      have hw2 : wrap64 (2 * (n : Int)) = 2 * (n : Int) := w64m hn8
      clear p2 f4
      by_cases h2 : h < (n : Int)
      · have hd2 : decide (h < (n : Int)) = true := decide_eq_true h2
        rw [if_pos h2] at HV2
        clear h2
        go_wp2_with fail
        go_ret
        exact ⟨ret_int (by rw [HV2.out]), HF4.out⟩
      · have hd2 : decide (h < (n : Int)) = false := decide_eq_false h2
        rw [if_neg h2] at HV2
        clear h2
        by_cases h3 : h < 2 * (n : Int)
        · have hd3 : decide (h < 2 * (n : Int)) = true := decide_eq_true h3
          rw [if_pos h3] at HV2
          clear h3
          go_wp2_with fail
          go_ret
          exact ⟨ret_int (by rw [HV2.out]), HF4.out⟩
        · have hd3 : decide (h < 2 * (n : Int)) = false := decide_eq_false h3
          rw [if_neg h3] at HV2
          clear h3
          go_wp2_with fail
          go_ret
          exact ⟨ret_int (by rw [HV2.out]), HF4.out⟩
    · have hb1 : (tv != node) = true := by simp [h1]
      have HV2 := hid HVV.out
      rw [if_neg h1] at HV2
      clear h1
      go_wp2_with fail
      go_ret
      exact ⟨ret_int (by rw [HV2.out]), HF3.out⟩
end Go.Proofs.Ytecngibenlcdiaa
