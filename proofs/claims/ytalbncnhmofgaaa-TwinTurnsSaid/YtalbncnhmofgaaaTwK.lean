/-
  THE WALK OF TwinTurns (ch 11). Conditions: none.
-/
import Derived.Test.YtalbncnhmofgaaaTwJ
import Derived.Test.YtalbncnhmofgaaaTwI
namespace Go.Proofs.Ytalbncnhmofgaaa
open Go.RowKit Go.ChangeShapes Go.WideShapes Go.Deep

set_option linter.unusedSimpArgs false
set_option maxRecDepth 100000
theorem zero3 (W : World) : (zeroValue 51).run Try.prog W = .ok (.agg #[.int .i64 0, .int .i64 0, .int .i64 0]) W := by kernel_rfl
def m3 (m : Nat → Int) : Array Value := #[.int .i64 (m 0), .int .i64 (m 1), .int .i64 (m 2)]
/-- What stays of the twin while frames go over. -/
structure Go1 (s : TS) (n : Nat) (b0 b1 b2 : Bool) (j : Nat) (m : Nat → Int) : Prop where
  node : s.node = 3
  life : s.life = 1
  act : s.act = false
  en : s.n = n
  eb0 : s.b0 = b0
  eb1 : s.b1 = b1
  eb2 : s.b2 = b2
  ser : s.ser = j
  inv : s.inv (11 + j)
  fair : Fair n b0 b1 b2 s.nx m
  rng : ∀ i, 0 ≤ m i ∧ m i ≤ j
theorem go1_step {s : TS} {n : Nat} {b0 b1 b2 : Bool} {j : Nat} {m : Nat → Int} (h : Go1 s n b0 b1 b2 j m) (hj : j ≤ 1000) :
    wrapR s [] = (fz 3 1 ((j : Int) + 1) [], ((2 ^ ovN n b0 b1 b2 s.nx : Nat) : Int), 0) ∧ Go1 (wrapS s []) n b0 b1 b2 (j + 1) (inc1 m (ovN n b0 b1 b2 s.nx)) ∧ ovN n b0 b1 b2 s.nx < n ∧ badB b0 b1 b2 (ovN n b0 b1 b2 s.nx) = false := by
  have i1 := h.inv.n1
  have i3 := h.inv.n3
  have ix := h.inv.nx
  have iw := h.inv.well
  rw [h.en] at i1 i3 ix iw
  rw [h.eb0, h.eb1, h.eb2] at iw
  have hok : okF 3 1 ((j : Int) + 1) = true := (okF_iff _ _ _).2 ⟨by decide, by decide, by omega, by omega⟩
  have hws : wrapS s [] = { s with ser := s.ser + 1, nx := (ovN n b0 b1 b2 s.nx + 1) % n } := by
    unfold wrapS overS
    rw [if_neg (by decide)]
    simp only
    rw [h.act, if_neg (by decide)]
    simp only [TS.ov, h.en, h.eb0, h.eb1, h.eb2]
  have hwr : wrapR s [] = (fz 3 1 ((j : Int) + 1) [], ((2 ^ ovN n b0 b1 b2 s.nx : Nat) : Int), 0) := by
    unfold wrapR
    rw [if_neg (by decide), h.node, h.life, h.ser, fz_pack hok (by decide)]
    simp only [overF]
    rw [h.act, if_neg (by decide)]
    simp only [TS.ov, h.en, h.eb0, h.eb1, h.eb2]
  obtain ⟨k1, _⟩ := fair_at i1 i3 ix iw 0 0 (by omega) (by omega)
  simp only [wl3, Bool.and_eq_true, decide_eq_true_eq, Bool.not_eq_true'] at k1
  have hinv := inv_wrap h.inv []
  refine ⟨hwr, ?_, k1.1, k1.2⟩
  rw [hws] at hinv ⊢
  refine ⟨h.node, h.life, h.act, h.en, h.eb0, h.eb1, h.eb2, by simp only [h.ser]; omega, hinv.mono (by omega), fair_step i1 i3 ix iw h.fair, fun i => ?_⟩
  have := h.rng i
  unfold inc1; split <;> omega
theorem shl_bd {bd : Nat} (h : bd < 3) : IntKind.i64.wrap (1 * 2 ^ min bd 64) = ((2 ^ bd : Nat) : Int) := by
  have h3 : bd = 0 ∨ bd = 1 ∨ bd = 2 := by omega
  rcases h3 with rfl | rfl | rfl <;> rfl
theorem shl_lt {n o : Nat} (hn : n = 1 ∨ n = 2 ∨ n = 3) (ho : o < n) : ((2 ^ o : Nat) : Int) < wrap64 (1 * 2 ^ min n 64) := by
  have h9 : o = 0 ∨ o = 1 ∨ o = 2 := by omega
  rcases hn with rfl | rfl | rfl
  · rw [show (1 * 2 ^ min 1 64 : Int) = 2 by decide, w64d (by decide) (by decide)]
    rcases h9 with rfl | rfl | rfl <;> first | omega | decide
  · rw [show (1 * 2 ^ min 2 64 : Int) = 4 by decide, w64d (by decide) (by decide)]
    rcases h9 with rfl | rfl | rfl <;> first | omega | decide
  · rw [show (1 * 2 ^ min 3 64 : Int) = 8 by decide, w64d (by decide) (by decide)]
    rcases h9 with rfl | rfl | rfl <;> first | omega | decide
theorem faulty_bit2 {s : TS} {j : Nat} (hj : j < 3) : (bits .and .i64 (faultyF s / 2 ^ min j 64) 1 == 0) = !s.bd j := by
  have hst3 : j = 0 ∨ j = 1 ∨ j = 2 := by omega
  rw [faulty_bd]
  unfold TS.bd badB
  rcases hst3 with rfl | rfl | rfl <;> cases s.b0 <;> cases s.b1 <;> cases s.b2 <;> decide
theorem faulty_and {s : TS} {o : Nat} (ho : o < 3) (h : s.bd o = false) : bits .and .i64 ((2 ^ o : Nat) : Int) (faultyF s) = 0 := by
  have hst3 : o = 0 ∨ o = 1 ∨ o = 2 := by omega
  rw [faulty_bd]
  unfold TS.bd badB at h
  rcases hst3 with rfl | rfl | rfl <;> revert h <;> cases s.b0 <;> cases s.b1 <;> cases s.b2 <;> decide
set_option maxHeartbeats 16000000 in
theorem turns_walk (lv nv bv : Int) (w : World) (wl : (Lit.int .i64 lv).wf = true) (wn : (Lit.int .i64 nv).wf = true) (wb : (Lit.int .i64 bv).wf = true) :
    Calls Try.prog 7 #[.int .i64 lv, .int .i64 nv, .int .i64 bv] w fun e w' => e = .returned (.bool true) ∧ Below w.heap.size w w' := by
  have hlw := wf_i64_bd wl
  have hnw := wf_i64_bd wn
  have hbw := wf_i64_bd wb
  have hlb := bring_bd lv 3 (by omega)
  have hnb := bring_bd nv 301 (by omega)
  have HBN := hid (fun W => bring_any nv 301 W hnw.1 hnw.2 (by omega) (by omega))
  obtain ⟨ln, hln⟩ : ∃ ln : Nat, bring lv 3 = ln := ⟨(bring lv 3).toNat, by omega⟩
  obtain ⟨bn, hbn⟩ : ∃ bn : Nat, bring nv 301 = bn := ⟨(bring nv 301).toNat, by omega⟩
  have HBL := hid (fun W => bring_any lv 3 W hlw.1 hlw.2 (by omega) (by omega))
  rw [hln] at hlb HBL
  rw [hbn] at hnb HBN
  obtain ⟨n, hn⟩ : ∃ n, n = ln + 1 := ⟨_, rfl⟩
  have hwn : wrap64 (1 + (ln : Int)) = (n : Int) := by rw [w64d (by omega) (by omega)]; omega
  obtain ⟨n2, hn2⟩ : ∃ n2 : Int, n2 = 2 * (n : Int) := ⟨_, rfl⟩
  have hw2 : wrap64 (2 * (n : Int)) = n2 := by rw [hn2]; exact w64d (by omega) (by omega)
  have hbb := bring_bd bv n2 (by omega)
  have HBB := hid (fun W => bring_any bv n2 W hbw.1 hbw.2 (by omega) (by omega))
  obtain ⟨bd, hbd⟩ : ∃ bd : Nat, bring bv n2 = bd := ⟨(bring bv n2).toNat, by omega⟩
  rw [hbd] at hbb HBB
  have HN : Hid (1 ≤ n ∧ n ≤ 3) := hid (by omega)
  have HBNB : Hid (bn < 301) := hid (by omega)
  clear wl wn wb hlw hnw hbw hlb hnb hln hbn hn hn2 hbb hbd
  go_enter Try.func7, Try.ntmps7
  go_wp2_with fail
  with_reducible refine (works_tw w).mono ?_
  rintro e w1 ⟨rfl, f1⟩
  go_wp2_with fail
  with_reducible refine (HBL.out w1).mono ?_
  rintro e w2 ⟨rfl, rfl⟩
  go_wp2_with fail
  with_reducible refine (new_1 3 1 n false w w1 (by decide) (by decide) (by decide) HN.out.1 HN.out.2 f1).mono ?_
  rintro e w2 ⟨p, rfl, t2, f2⟩
  have HT2 := hid (t2.less (Y := fun _ => False) (fun _ h => h.elim))
  clear t2 f1 f2
  go_wp2_with fail
  with_reducible refine (HBB.out w2).mono ?_
  rintro e w3 ⟨rfl, rfl⟩
  clear hwn hw2 HBL HBB
  by_cases hc : bd < n ∧ 1 < n
  · obtain ⟨hc1, hc2⟩ := hc
    have HC1 := hid hc1
    have HC2 := hid hc2
    have HS0 := hid (turn_start n bd)
    rw [← HS0.out] at HT2
    clear HS0
    have HSEEN : Hid (Seen (fun _ => none) 5 1 0) := hid (.inl ⟨rfl, rfl⟩)
    have k1 : (bd : Int) < (n : Int) := by omega
    have k2 : (1 : Int) < (n : Int) := by omega
    clear hc1 hc2
    go_wp2_with fail
    clear k1 k2
    go_loopw [9] (fun i wr => ∃ (i' : Nat) (A : HM) (c : Int), i' ≤ 11 ∧ i = .int .i64 i' ∧ T1 (fun _ => False) w wr p (stS n bd i' 0) A ∧ Seen A 5 1 c ∧ 0 ≤ c ∧ c < ((1 + i' * n : Nat) : Int)) (fun i _ => 11 - (intOf i).toNat)
    case atStart => exact ⟨0, _, 0, by omega, rfl, HT2.out, HSEEN.out, by omega, by omega⟩
    case round =>
      obtain ⟨i, A, c, hi, rfl, hT, hS, hc0, hc1⟩ := hrel
      clear HT2 HSEEN
      have HT := hid hT
      have HSE := hid hS
      have HCC := hid (And.intro hc0 hc1)
      clear hT hS hc0 hc1
      by_cases hi11 : i < 11
      · have HI := hid hi11
        have hii : (i : Int) < 11 := by omega
        obtain ⟨mm, hmm⟩ : ∃ mm, mm = i * n := ⟨_, rfl⟩
        have hmm9 : mm ≤ 33 := by
          rw [hmm]
          have := HN.out.2
          calc i * n ≤ 11 * 3 := Nat.mul_le_mul (by omega) this
            _ = 33 := rfl
        have HMM := hid hmm
        rw [← hmm] at HCC
        have hwm : wrap64 ((i : Int) * (n : Int)) = (mm : Int) := by
          rw [hmm, show (i : Int) * (n : Int) = ((i * n : Nat) : Int) by simp, ← hmm]; exact w64d (by omega) (by omega)
        have hw1m : wrap64 (1 + (mm : Int)) = ((mm + 1 : Nat) : Int) := by rw [w64d (by omega) (by omega)]; omega
        have HWM := hid hwm
        have HW1M := hid hw1m
        have HMB := hid hmm9
        clear hmm hi11 hi hwm hw1m hmm9
        go_wp2_with fail
        clear hii
        go_loopw [10] (fun j wr => ∃ (k : Nat) (A : HM) (c : Int), k ≤ n ∧ j = .int .i64 k ∧ T1 (fun _ => False) w wr p (stS n bd i k) A ∧ Seen A 5 1 c ∧ 0 ≤ c ∧ c < ((1 + mm + k : Nat) : Int)) (fun j _ => n - (intOf j).toNat)
        case atStart => exact ⟨0, A, c, by omega, rfl, HT.out, HSE.out, HCC.out.1, by have := HCC.out.2; omega⟩
        case round =>
          clear HT HSE HCC
          obtain ⟨k, A, c, hk, rfl, hT, hS, hc0, hc1⟩ := hrel
          have HT := hid hT
          have HSE := hid hS
          have HCC := hid (And.intro hc0 hc1)
          clear hT hS hc0 hc1
          have HJ9 : Hid (wrap64 ((k : Int) + 1) = ((k + 1 : Nat) : Int)) := hid (by have := HN.out; rw [w64d (by omega) (by omega)]; omega)
          by_cases hkn : k < n
          · have HKN := hid hkn
            have hkk : (k : Int) < (n : Int) := by omega
            clear hkn hk
            by_cases hkb : k = bd
            · have HSK := hid (turn_skip HC2.out HN.out.2 HC1.out HI.out)
              have d3 : ((k : Int) != (bd : Int)) = false := by simp; omega
              have HKB := hid hkb
              clear hkb
              go_wp2_with fail
              clear d3 hkk
              go_roundw
              case rel => exact ⟨k + 1, A, c, by have := HKN.out; omega, congrArg (Value.int .i64) HJ9.out, by have h := HT.out; rw [HKB.out] at h ⊢; rw [← HSK.out]; exact h, HSE.out, HCC.out.1, by have := HCC.out.2; omega⟩
              case measure => (have := HKN.out; rw [HJ9.out]; simp [intOf]; omega)
            · have HST := hid (turn_come HC2.out HN.out.2 HC1.out HI.out HKN.out hkb)
              have d3 : ((k : Int) != (bd : Int)) = true := by simp; omega
              obtain ⟨q, hq⟩ : ∃ q : Int, q = ((mm + 1 : Nat) : Int) + (k : Int) := ⟨_, rfl⟩
              have hwq : wrap64 (((mm + 1 : Nat) : Int) + (k : Int)) = q := by have := HMB.out; have := HKN.out; have := HN.out; rw [hq]; exact w64d (by omega) (by omega)
              have HOK : Hid (okF 5 1 q = true) := hid ((okF_iff _ _ _).2 ⟨by decide, by decide, by omega, by have := HMB.out; have := HKN.out; have := HN.out; omega⟩)
              obtain ⟨g1, g2⟩ := seen_next HSE.out HCC.out.1 (c := q) (by have := HCC.out.2; omega)
              have G1 := hid g1
              have G2 := hid g2
              have HQ : Hid (0 ≤ q ∧ q < ((1 + mm + (k + 1) : Nat) : Int)) := hid (by omega)
              have HINV : Hid ((stS n bd i k).inv 12) := hid (turn_inv HC2.out HN.out.2 HC1.out HI.out HKN.out)
              have hwm := HWM.out
              have hw1m := HW1M.out
              clear hq hkb g1 g2
              generalize ((mm + 1 : Nat) : Int) = mm1 at *
              go_wp2_with fail
              clear hwm hw1m hwq
              with_reducible refine (frame_fz 5 1 q (.slice none 0 0) [] _ (Vw.nil _ _) AllB.nil HOK.out (by decide)).mono ?_
              rintro e w6 ⟨v6, rfl, r6, f6, a6⟩
              obtain ⟨ab, cb, hv6⟩ := row_shape r6
              have HV6 := hid (Vw.of_row r6)
              have HT6 := hid (HT.out.keep0 f6)
              have HCL := hid (comes_fz (k : Int) v6 5 1 q [] HT6.out HINV.out (by decide) HV6.out AllB.nil HOK.out (by decide) (by omega) (by have := HKN.out; show (k : Int) < (n : Int); omega))
              rw [G1.out, Int.toNat_natCast, HST.out] at HCL
              subst hv6
              clear HT HSE HCC r6 f6 HT6 HINV HST
              go_wp2_with fail
              with_reducible refine HCL.out.mono ?_
              rintro e w7 ⟨rfl, t7, f7⟩
              have HT7 := hid t7
              clear t7 f7 HCL
              go_wp2_with fail
              clear d3 hkk
              go_roundw
              case rel => exact ⟨k + 1, _, q, by have := HKN.out; omega, congrArg (Value.int .i64) HJ9.out, HT7.out, G2.out, HQ.out.1, HQ.out.2⟩
              case measure => (have := HKN.out; rw [HJ9.out]; simp [intOf]; omega)
          · have hkn' : k = n := by omega
            have HTN := hid (turn_next HC2.out HN.out.2 HC1.out HI.out)
            have HI9 : Hid (wrap64 ((i : Int) + 1) = ((i + 1 : Nat) : Int)) := hid (by have := HI.out; rw [w64d (by omega) (by omega)]; omega)
            clear hkn hk
            subst hkn'
            go_wp2_with fail
            go_roundw
            case rel => exact ⟨i + 1, A, c, by have := HI.out; omega, congrArg (Value.int .i64) HI9.out, by rw [← HTN.out]; exact HT.out, HSE.out, HCC.out.1, by have h1 := HCC.out.2; have h2 := HMM.out; rw [Nat.add_mul, ← h2]; omega⟩
            case measure => (have := HI.out; rw [HI9.out]; simp [intOf]; omega)
      · have hi' : i = 11 := by omega
        subst hi'
        have HFE := hid (turn_end HC2.out HN.out.2 HC1.out)
        have HINV : Hid ((stS n bd 11 0).inv 11) := hid (by
          have h := turn_inv2 HC2.out HN.out.2 HC1.out
          exact h)
        have HFA := hid (fun W (h : T1 (fun _ => False) w W p (stS n bd 11 0) A) => faulty_1 h HINV.out)
        rw [HFE.out] at HFA
        have hsh := shl_bd (bd := bd) (by have := HC1.out; have := HN.out; omega)
        have hsh2 := hsh
        rw [Int.one_mul] at hsh2
        generalize ((2 ^ bd : Nat) : Int) = pw at *
        have d4 : (pw != pw) = false := by simp
        clear hi hi11
        go_wp2_with fail
        have HTD := hid (HT.out.keep0 ((Fr.refl _ wr).drew))
        refine wp_region_held_drew (S := fun _ => True) (by kernel_rfl) (trivial) (fun hHeld => ?_)
        refine wpAnyH_take (i := 0) (v := ?_) rfl (by kernel_rfl) (by kernel_rfl) (by kernel_rfl) (fun _ _ _ h => h) (Or.inl ⟨by rfl, ?_⟩) hHeld ?_
        rotate_left 1
        · (intro w hSw; (try dsimp only at hSw); go_simp <;> with_reducible rfl)
        try simp only [Act.put, List.setIfInBounds_toArray, List.set_cons_zero, List.set_cons_succ, List.getElem_toArray, List.getElem_cons_succ, List.getElem_cons_zero]
        refine wpAnyH_take (i := 2) (v := ?_) rfl (by kernel_rfl) (by kernel_rfl) (by kernel_rfl) (fun _ _ _ h => h) (Or.inl ⟨by rfl, ?_⟩) hHeld ?_
        rotate_left 1
        · (intro w hSw; (try dsimp only at hSw); go_simp <;> with_reducible rfl)
        try simp only [Act.put, List.setIfInBounds_toArray, List.set_cons_zero, List.set_cons_succ, List.getElem_toArray, List.getElem_cons_succ, List.getElem_cons_zero]
        refine wpAnyH_take (i := 3) (v := ?_) rfl (by kernel_rfl) (by kernel_rfl) (by kernel_rfl) (fun _ _ _ h => h) (Or.inl ⟨by rfl, ?_⟩) hHeld ?_
        rotate_left 1
        · (intro w hSw; (try dsimp only at hSw); go_simp <;> with_reducible rfl)
        try simp only [Act.put, List.setIfInBounds_toArray, List.set_cons_zero, List.set_cons_succ, List.getElem_toArray, List.getElem_cons_succ, List.getElem_cons_zero]
        refine wpAnyH_ready (rs := [1]) (by kernel_rfl) (by simp) ?_
        refine AllReadyH.cons rfl (fun K hK => ?_) AllReadyH.nil
        clear hHeld
        go_simp
        go_at_call 24
        with_reducible refine (HFA.out _ HTD.out).mono ?_
        rintro e w9 ⟨rfl, f9⟩
        have HT9 := hid (HTD.out.keep0 f9)
        refine hK.out _ _ (trivial) (fun hHeld => ?_)
        clear hK K
        try simp only [Act.put, List.setIfInBounds_toArray, List.set_cons_zero, List.set_cons_succ, List.getElem_toArray, List.getElem_cons_succ, List.getElem_cons_zero]
        refine wpAnyH_take (i := 4) (v := ?_) rfl (by kernel_rfl) (by kernel_rfl) (by kernel_rfl) (fun _ _ _ h => h) (Or.inl ⟨by rfl, ?_⟩) hHeld ?_
        rotate_left 1
        · (intro w hSw; (try dsimp only at hSw); go_simp <;> with_reducible rfl)
        try simp only [Act.put, List.setIfInBounds_toArray, List.set_cons_zero, List.set_cons_succ, List.getElem_toArray, List.getElem_cons_succ, List.getElem_cons_zero]
        refine wpAnyH_done (by kernel_rfl) ?_ _
        clear hHeld
        go_wp2_with fail
        clear hsh hsh2 d4
        have HGO : Hid (Go1 (stS n bd 11 0) n (stS n bd 11 0).b0 (stS n bd 11 0).b1 (stS n bd 11 0).b2 0 (fun _ => 0)) := hid ⟨rfl, rfl, rfl, rfl, rfl, rfl, rfl, rfl, HINV.out.mono (by omega), fun _ _ _ _ => ⟨by omega, fun _ => by omega⟩, fun _ => by omega⟩
        have HTW : Hid (T1 (fun _ => False) w w9 p (stS n bd 11 0) A) := HT9
        generalize stS n bd 11 0 = s0 at *
        clear HT HTD HT9 HFE HFA HINV HSE HCC HC1 HC2
        have HB := hid (rfl : s0.b0 = s0.b0)
        obtain ⟨b0, hb0⟩ : ∃ b, b = s0.b0 := ⟨_, rfl⟩
        obtain ⟨b1, hb1⟩ : ∃ b, b = s0.b1 := ⟨_, rfl⟩
        obtain ⟨b2, hb2⟩ : ∃ b, b = s0.b2 := ⟨_, rfl⟩
        rw [← hb0, ← hb1, ← hb2] at HGO
        clear hb0 hb1 hb2 HB
        go_wp2_with fail
        try clear hc2
        try clear hc1
        have HBA : Hid (Blk (w9.alloc (.cells #[.int .i64 0, .int .i64 0, .int .i64 0] 51)) w9.heap.size (m3 (fun _ => 0)) 51) := hid (Blk.new w9 _ _)
        have HTA : Hid (T1 (· = w9.heap.size) w (w9.alloc (.cells #[.int .i64 0, .int .i64 0, .int .i64 0] 51)) p s0 A) := hid (HTW.out.more ((Fr.refl _ _).alloc _) (fun b hb => .inr (by have : b = w9.heap.size := hb; rw [World.size_alloc]; omega)))
        have HFW : Hid (w.heap.size ≤ w9.heap.size) := hid HTW.out.fr.size
        generalize (w9.alloc (.cells #[.int .i64 0, .int .i64 0, .int .i64 0] 51)) = wa at *
        generalize w9.heap.size = f at *
        clear HTW
        go_loopw [12] (fun i wr => ∃ (j : Nat) (s : TS) (m : Nat → Int), j ≤ bn ∧ i = .int .i64 j ∧ T1 (· = f) w wr p s A ∧ Go1 s n b0 b1 b2 j m ∧ Blk wr f (m3 m) 51) (fun i _ => bn - (intOf i).toNat)
        case atStart => exact ⟨0, s0, _, by omega, rfl, HTA.out, HGO.out, HBA.out⟩
        case round =>
          clear HTA HGO HBA
          obtain ⟨j, s, m, hj, rfl, hT, hG, hB⟩ := hrel
          have HT := hid hT
          have HG := hid hG
          have HB := hid hB
          clear hT hG hB
          by_cases hjb : j < bn
          · have HJB := hid hjb
            have hjj : (j : Int) < (bn : Int) := by omega
            clear hj hjb
            obtain ⟨g1, g2, g3, g4⟩ := go1_step HG.out (by have := HBNB.out; have := HJB.out; omega)
            have G1 := hid g1
            have G2 := hid g2
            have G3 := hid g3
            have G4 := hid g4
            have HJ9 : Hid (wrap64 ((j : Int) + 1) = ((j + 1 : Nat) : Int)) := hid (by have := HBNB.out; have := HJB.out; rw [w64d (by omega) (by omega)]; omega)
            have HWR := hid (fun W (h : T1 (· = f) w W p s A) => wrap_1 (.slice none 0 0) [] h HG.out.inv (by have := HBNB.out; have := HJB.out; omega) (Vw.nil _ _) AllB.nil)
            rw [G1.out] at HWR
            have HFY := hid (fun W (h : T1 (· = f) w W p (wrapS s []) A) => faulty_1 h G2.out.inv)
            have HAND : Hid (bits .and .i64 ((2 ^ ovN n b0 b1 b2 s.nx : Nat) : Int) (faultyF (wrapS s [])) = 0) := hid (faulty_and (by have := G3.out; have := HN.out; omega) (by unfold TS.bd; rw [G2.out.eb0, G2.out.eb1, G2.out.eb2]; exact G4.out))
            have HRG := hid HG.out.rng
            have HX : Hid (ovN n b0 b1 b2 s.nx = 0 ∧ 1 ≤ n ∨ ovN n b0 b1 b2 s.nx = 1 ∧ 2 ≤ n ∨ ovN n b0 b1 b2 s.nx = 2 ∧ n = 3) := hid (by have := G3.out; have := HN.out; omega)
            have HNW : Hid (∀ o : Nat, o < n → ((2 ^ o : Nat) : Int) < wrap64 (1 * 2 ^ min n 64)) := hid (fun o ho => shl_lt (by have := HN.out; omega) ho)
            obtain ⟨SH, hSH⟩ : ∃ x : Int, wrap64 (1 * 2 ^ min n 64) = x := ⟨_, rfl⟩
            have hSH2 := hSH
            rw [Int.one_mul] at hSH2
            have hNX := HNW.out _ G3.out
            rw [hSH] at hNX
            have HNX := hid hNX
            clear g1 g2 g3 g4 G1 G3 G4 HG hNX HNW
            generalize faultyF (wrapS s []) = F1 at *
            generalize ovN n b0 b1 b2 s.nx = o at *
            generalize wrapS s [] = s1 at *
            go_wp2_with fail
            with_reducible refine (HBN.out wr).mono ?_
            rintro e wb ⟨rfl, rfl⟩
            go_wp2_with fail
            clear hjj
            with_reducible refine (HWR.out _ HT.out).mono ?_
            rintro e wc ⟨vc, rfl, rc, ac, tc, fc⟩
            obtain ⟨dc, kc, hvc⟩ := row_shape rc
            subst hvc
            have HTC := hid tc
            have HBC := hid (HB.out.keep fc (fun h => h rfl))
            clear rc ac tc fc HT HB HWR
            have hx := HX.out
            rcases hx with ⟨ho, hn1⟩ | ⟨ho, hn1⟩ | ⟨ho, hn1⟩
            · subst ho
              clear hn1
              have HAND' : Hid (bits .and .i64 1 F1 = 0) := hid (by have h := HAND.out; exact h)
              have hNX : decide (SH ≤ 1) = false := decide_eq_false (by have h := HNX.out; have : ((2 ^ 0 : Nat) : Int) = 1 := rfl; omega)
              have HBS := hid (HBC.out.set' 0 (.int .i64 (m 0 + 1)) (ds := m3 (inc1 m 0)) (by simp [m3, inc1]))
              have hwm : wrap64 (m 0 + 1) = m 0 + 1 := by have := HRG.out 0; have := HBNB.out; have := HJB.out; exact w64d (by omega) (by omega)
              go_wp2_with fail
              with_reducible refine (HFY.out _ HTC.out).mono ?_
              rintro e wd ⟨rfl, fd⟩
              have hand := HAND'.out
              have HBD := hid (HBC.out.keep fd (fun h => h))
              have cd : wd.cell? ⟨f, 0, none⟩ = some (.int .i64 (m 0)) := HBD.out.cell 0 rfl
              have zd := HBD.out.free 0
              have HTD := hid (HTC.out.keep0 fd)
              have HBS := hid (HBD.out.set' 0 (.int .i64 (m 0 + 1)) (ds := m3 (inc1 m 0)) (by simp [m3, inc1]))
              go_wp2_with fail
              clear hNX hwm hand cd zd
              go_roundw
              case rel => exact ⟨j + 1, s1, _, by have := HJB.out; omega, congrArg (Value.int .i64) HJ9.out, HTD.out.keep ((Fr.refl (· = f) wd).set1 0 (.int .i64 (m 0 + 1))) (fun b _ hb => ⟨hb, by have : b = f := hb; have := HFW.out; omega⟩), G2.out, HBS.out⟩
              case measure => (have := HJB.out; rw [HJ9.out]; simp [intOf]; omega)
            · subst ho
              clear hn1
              have HAND' : Hid (bits .and .i64 2 F1 = 0) := hid (by have h := HAND.out; exact h)
              have hNX : decide (SH ≤ 2) = false := decide_eq_false (by have h := HNX.out; have : ((2 ^ 1 : Nat) : Int) = 2 := rfl; omega)
              have HBS := hid (HBC.out.set' 1 (.int .i64 (m 1 + 1)) (ds := m3 (inc1 m 1)) (by simp [m3, inc1]))
              have hwm : wrap64 (m 1 + 1) = m 1 + 1 := by have := HRG.out 1; have := HBNB.out; have := HJB.out; exact w64d (by omega) (by omega)
              go_wp2_with fail
              with_reducible refine (HFY.out _ HTC.out).mono ?_
              rintro e wd ⟨rfl, fd⟩
              have hand := HAND'.out
              have HBD := hid (HBC.out.keep fd (fun h => h))
              have cd : wd.cell? ⟨f, 1, none⟩ = some (.int .i64 (m 1)) := HBD.out.cell 1 rfl
              have zd := HBD.out.free 1
              have HTD := hid (HTC.out.keep0 fd)
              have HBS := hid (HBD.out.set' 1 (.int .i64 (m 1 + 1)) (ds := m3 (inc1 m 1)) (by simp [m3, inc1]))
              go_wp2_with fail
              clear hNX hwm hand cd zd
              go_roundw
              case rel => exact ⟨j + 1, s1, _, by have := HJB.out; omega, congrArg (Value.int .i64) HJ9.out, HTD.out.keep ((Fr.refl (· = f) wd).set1 1 (.int .i64 (m 1 + 1))) (fun b _ hb => ⟨hb, by have : b = f := hb; have := HFW.out; omega⟩), G2.out, HBS.out⟩
              case measure => (have := HJB.out; rw [HJ9.out]; simp [intOf]; omega)
            · subst ho
              clear hn1
              have HAND' : Hid (bits .and .i64 4 F1 = 0) := hid (by have h := HAND.out; exact h)
              have hNX : decide (SH ≤ 4) = false := decide_eq_false (by have h := HNX.out; have : ((2 ^ 2 : Nat) : Int) = 4 := rfl; omega)
              have HBS := hid (HBC.out.set' 2 (.int .i64 (m 2 + 1)) (ds := m3 (inc1 m 2)) (by simp [m3, inc1]))
              have hwm : wrap64 (m 2 + 1) = m 2 + 1 := by have := HRG.out 2; have := HBNB.out; have := HJB.out; exact w64d (by omega) (by omega)
              go_wp2_with fail
              with_reducible refine (HFY.out _ HTC.out).mono ?_
              rintro e wd ⟨rfl, fd⟩
              have hand := HAND'.out
              have HBD := hid (HBC.out.keep fd (fun h => h))
              have cd : wd.cell? ⟨f, 2, none⟩ = some (.int .i64 (m 2)) := HBD.out.cell 2 rfl
              have zd := HBD.out.free 2
              have HTD := hid (HTC.out.keep0 fd)
              have HBS := hid (HBD.out.set' 2 (.int .i64 (m 2 + 1)) (ds := m3 (inc1 m 2)) (by simp [m3, inc1]))
              go_wp2_with fail
              clear hNX hwm hand cd zd
              go_roundw
              case rel => exact ⟨j + 1, s1, _, by have := HJB.out; omega, congrArg (Value.int .i64) HJ9.out, HTD.out.keep ((Fr.refl (· = f) wd).set1 2 (.int .i64 (m 2 + 1))) (fun b _ hb => ⟨hb, by have : b = f := hb; have := HFW.out; omega⟩), G2.out, HBS.out⟩
              case measure => (have := HJB.out; rw [HJ9.out]; simp [intOf]; omega)
          · have hjb' : j = bn := by omega
            clear hj hjb
            subst hjb'
            have HG9 := hid HG.out.inv
            have HFY := hid (fun W (h : T1 (· = f) w W p s A) => faulty_1 h HG9.out)
            have HBIT := hid (fun i (hi : i < 3) => faulty_bit2 (s := s) (j := i) hi)
            have HBD : Hid (∀ i, s.bd i = badB b0 b1 b2 i) := hid (fun i => by unfold TS.bd; rw [HG.out.eb0, HG.out.eb1, HG.out.eb2])
            have HEND := hid (fair_end HG.out.fair (fun i => by have := HG.out.rng i; have := HBNB.out; omega))
            generalize faultyF s = F1 at *
            go_wp2_with fail
            with_reducible refine (HBN.out wr).mono ?_
            rintro e wb ⟨rfl, rfl⟩
            go_wp2_with fail
            have HL0 : Hid (leK b0 b1 b2 m 0 = 1073741824) := hid rfl
            have HM0 : Hid (moK b0 b1 b2 m 0 = 0) := hid rfl
            have HLS : Hid (∀ k, leK b0 b1 b2 m (k + 1) = if badB b0 b1 b2 k then leK b0 b1 b2 m k else (if m k < leK b0 b1 b2 m k then m k else leK b0 b1 b2 m k)) := hid (fun k => rfl)
            have HMS : Hid (∀ k, moK b0 b1 b2 m (k + 1) = if badB b0 b1 b2 k then moK b0 b1 b2 m k else (if moK b0 b1 b2 m k < m k then m k else moK b0 b1 b2 m k)) := hid (fun k => rfl)
            generalize leK b0 b1 b2 m = le at *
            generalize moK b0 b1 b2 m = mo at *
            have HTA := HT
            have HBA := HB
            clear HT HB HG HG9
            generalize wr = we at *
            go_loopw [16, 17, 18] (fun l o i wr => ∃ k : Nat, k ≤ n ∧ i = .int .i64 k ∧ l = .int .i64 (le k) ∧ o = .int .i64 (mo k) ∧ Fr (fun _ => False) we wr) (fun _ _ i _ => n - (intOf i).toNat)
            case atStart => exact ⟨0, by omega, rfl, by rw [HL0.out], by rw [HM0.out], Fr.refl _ _⟩
            case round =>
              obtain ⟨k, hk, rfl, rfl, rfl, hf⟩ := hrel
              have HF := hid hf
              have HTK := hid (HTA.out.keep0 hf)
              clear hf
              by_cases hkn : k < n
              · have HKN := hid hkn
                have hkk : (k : Int) < (n : Int) := by omega
                have HJ9 : Hid (wrap64 ((k : Int) + 1) = ((k + 1 : Nat) : Int)) := hid (by have := HN.out; have := HKN.out; rw [w64d (by omega) (by omega)]; omega)
                have hbit := HBIT.out k (by have := HN.out; omega)
                rw [HBD.out k, Nat.min_eq_left (by have := HN.out; omega)] at hbit
                have HL1 := hid (HLS.out k)
                have HM1 := hid (HMS.out k)
                have k0 : (0 : Int) ≤ (k : Int) := by omega
                have k3 : (k : Int) < 3 := by have := HN.out; omega
                have HCK : Hid (∀ W, Fr (fun _ => False) wr W → W.cell? ⟨f, k, none⟩ = some (.int .i64 (m k))) := hid (fun W g => by
                  have hB := (HBA.out.keep HF.out (fun h => h)).keep g (fun h => h)
                  have h3 : k = 0 ∨ k = 1 ∨ k = 2 := by have := HN.out; omega
                  rcases h3 with rfl | rfl | rfl
                  · exact hB.cell 0 rfl
                  · exact hB.cell 1 rfl
                  · exact hB.cell 2 rfl)
                clear hkn hk
                cases hb : badB b0 b1 b2 k with
                | true =>
                  rw [hb] at hbit HL1 HM1
                  go_wp2_with fail
                  with_reducible refine (HFY.out _ HTK.out).mono ?_
                  rintro e wd ⟨rfl, fd⟩
                  simp only [Bool.not_true] at hbit
                  go_wp2_with fail
                  clear hbit hkk k0 k3
                  go_roundw
                  case rel => exact ⟨k + 1, by have := HKN.out; omega, by first | exact congrArg (Value.int .i64) HJ9.out | exact congrArg (Value.int .i64) (by omega), congrArg (Value.int .i64) (by rw [HL1.out]; simp), congrArg (Value.int .i64) (by rw [HM1.out]; simp), HF.out.trans fd⟩
                  case measure => (have := HKN.out; (try rw [HJ9.out]); simp [intOf]; omega)
                | false =>
                  rw [hb] at hbit HL1 HM1
                  simp only [Bool.not_false] at hbit
                  go_wp2_with fail
                  with_reducible refine (HFY.out _ HTK.out).mono ?_
                  rintro e wd ⟨rfl, fd⟩
                  have hck := HCK.out wd fd
                  go_wp2_with fail
                  clear hbit hkk k0 k3 hck
                  go_roundw
                  case rel => exact ⟨k + 1, by have := HKN.out; omega, by first | exact congrArg (Value.int .i64) HJ9.out | exact congrArg (Value.int .i64) (by omega), congrArg (Value.int .i64) (by rw [HL1.out]; simp), congrArg (Value.int .i64) (by rw [HM1.out]; simp), HF.out.trans fd⟩
                  case measure => (have := HKN.out; (try rw [HJ9.out]); simp [intOf]; omega)
              · have hkn' : k = n := by omega
                subst hkn'
                have hwd : wrap64 (mo k - le k) = mo k - le k := w64d (by have := HEND.out; omega) (by have := HEND.out; omega)
                have HD : Hid (decide (mo k - le k ≤ 1) = true) := hid (decide_eq_true HEND.out.1)
                have hdd := HD.out
                clear hk hkn
                go_wp2_with fail
                go_ret
                exact ⟨rfl, (HTA.out.fr.trans HF.out).below (Nat.le_refl _) (fun _ h => h.elim)⟩
  · have HTW := HT2
    have HINV : Hid ((TS.new 3 1 n false).inv 11) := hid ((invT_new HN.out.1 HN.out.2).mono (by omega))
    have HGO : Hid (Go1 (TS.new 3 1 n false) n (TS.new 3 1 n false).b0 (TS.new 3 1 n false).b1 (TS.new 3 1 n false).b2 0 (fun _ => 0)) := hid ⟨rfl, rfl, rfl, rfl, rfl, rfl, rfl, rfl, HINV.out.mono (by omega), fun _ _ _ _ => ⟨by omega, fun _ => by omega⟩, fun _ => by omega⟩
    generalize TS.new 3 1 n false = s0 at *
    generalize (fun _ : Int => (none : Option (Int × List Int))) = A at *
    generalize w2 = w9 at *
    clear HT2 HINV
    have hcc : (bd < n ∧ decide ((1 : Int) < (n : Int)) = false) ∨ (¬ bd < n ∧ True) := by
      by_cases h1 : bd < n
      · exact .inl ⟨h1, decide_eq_false (by omega)⟩
      · exact .inr ⟨h1, trivial⟩
    clear hc
    rcases hcc with ⟨hc1, hc2⟩ | ⟨hc1, hc2⟩
    all_goals
      have HB := hid (rfl : s0.b0 = s0.b0)
      obtain ⟨b0, hb0⟩ : ∃ b, b = s0.b0 := ⟨_, rfl⟩
      obtain ⟨b1, hb1⟩ : ∃ b, b = s0.b1 := ⟨_, rfl⟩
      obtain ⟨b2, hb2⟩ : ∃ b, b = s0.b2 := ⟨_, rfl⟩
      rw [← hb0, ← hb1, ← hb2] at HGO
      clear hb0 hb1 hb2 HB
      go_wp2_with fail
      try clear hc2
      try clear hc1
      have HBA : Hid (Blk (w9.alloc (.cells #[.int .i64 0, .int .i64 0, .int .i64 0] 51)) w9.heap.size (m3 (fun _ => 0)) 51) := hid (Blk.new w9 _ _)
      have HTA : Hid (T1 (· = w9.heap.size) w (w9.alloc (.cells #[.int .i64 0, .int .i64 0, .int .i64 0] 51)) p s0 A) := hid (HTW.out.more ((Fr.refl _ _).alloc _) (fun b hb => .inr (by have : b = w9.heap.size := hb; rw [World.size_alloc]; omega)))
      have HFW : Hid (w.heap.size ≤ w9.heap.size) := hid HTW.out.fr.size
      generalize (w9.alloc (.cells #[.int .i64 0, .int .i64 0, .int .i64 0] 51)) = wa at *
      generalize w9.heap.size = f at *
      clear HTW
      go_loopw [12] (fun i wr => ∃ (j : Nat) (s : TS) (m : Nat → Int), j ≤ bn ∧ i = .int .i64 j ∧ T1 (· = f) w wr p s A ∧ Go1 s n b0 b1 b2 j m ∧ Blk wr f (m3 m) 51) (fun i _ => bn - (intOf i).toNat)
      case atStart => exact ⟨0, s0, _, by omega, rfl, HTA.out, HGO.out, HBA.out⟩
      case round =>
        clear HTA HGO HBA
        obtain ⟨j, s, m, hj, rfl, hT, hG, hB⟩ := hrel
        have HT := hid hT
        have HG := hid hG
        have HB := hid hB
        clear hT hG hB
        by_cases hjb : j < bn
        · have HJB := hid hjb
          have hjj : (j : Int) < (bn : Int) := by omega
          clear hj hjb
          obtain ⟨g1, g2, g3, g4⟩ := go1_step HG.out (by have := HBNB.out; have := HJB.out; omega)
          have G1 := hid g1
          have G2 := hid g2
          have G3 := hid g3
          have G4 := hid g4
          have HJ9 : Hid (wrap64 ((j : Int) + 1) = ((j + 1 : Nat) : Int)) := hid (by have := HBNB.out; have := HJB.out; rw [w64d (by omega) (by omega)]; omega)
          have HWR := hid (fun W (h : T1 (· = f) w W p s A) => wrap_1 (.slice none 0 0) [] h HG.out.inv (by have := HBNB.out; have := HJB.out; omega) (Vw.nil _ _) AllB.nil)
          rw [G1.out] at HWR
          have HFY := hid (fun W (h : T1 (· = f) w W p (wrapS s []) A) => faulty_1 h G2.out.inv)
          have HAND : Hid (bits .and .i64 ((2 ^ ovN n b0 b1 b2 s.nx : Nat) : Int) (faultyF (wrapS s [])) = 0) := hid (faulty_and (by have := G3.out; have := HN.out; omega) (by unfold TS.bd; rw [G2.out.eb0, G2.out.eb1, G2.out.eb2]; exact G4.out))
          have HRG := hid HG.out.rng
          have HX : Hid (ovN n b0 b1 b2 s.nx = 0 ∧ 1 ≤ n ∨ ovN n b0 b1 b2 s.nx = 1 ∧ 2 ≤ n ∨ ovN n b0 b1 b2 s.nx = 2 ∧ n = 3) := hid (by have := G3.out; have := HN.out; omega)
          have HNW : Hid (∀ o : Nat, o < n → ((2 ^ o : Nat) : Int) < wrap64 (1 * 2 ^ min n 64)) := hid (fun o ho => shl_lt (by have := HN.out; omega) ho)
          obtain ⟨SH, hSH⟩ : ∃ x : Int, wrap64 (1 * 2 ^ min n 64) = x := ⟨_, rfl⟩
          have hSH2 := hSH
          rw [Int.one_mul] at hSH2
          have hNX := HNW.out _ G3.out
          rw [hSH] at hNX
          have HNX := hid hNX
          clear g1 g2 g3 g4 G1 G3 G4 HG hNX HNW
          generalize faultyF (wrapS s []) = F1 at *
          generalize ovN n b0 b1 b2 s.nx = o at *
          generalize wrapS s [] = s1 at *
          go_wp2_with fail
          with_reducible refine (HBN.out wr).mono ?_
          rintro e wb ⟨rfl, rfl⟩
          go_wp2_with fail
          clear hjj
          with_reducible refine (HWR.out _ HT.out).mono ?_
          rintro e wc ⟨vc, rfl, rc, ac, tc, fc⟩
          obtain ⟨dc, kc, hvc⟩ := row_shape rc
          subst hvc
          have HTC := hid tc
          have HBC := hid (HB.out.keep fc (fun h => h rfl))
          clear rc ac tc fc HT HB HWR
          have hx := HX.out
          rcases hx with ⟨ho, hn1⟩ | ⟨ho, hn1⟩ | ⟨ho, hn1⟩
          · subst ho
            clear hn1
            have HAND' : Hid (bits .and .i64 1 F1 = 0) := hid (by have h := HAND.out; exact h)
            have hNX : decide (SH ≤ 1) = false := decide_eq_false (by have h := HNX.out; have : ((2 ^ 0 : Nat) : Int) = 1 := rfl; omega)
            have HBS := hid (HBC.out.set' 0 (.int .i64 (m 0 + 1)) (ds := m3 (inc1 m 0)) (by simp [m3, inc1]))
            have hwm : wrap64 (m 0 + 1) = m 0 + 1 := by have := HRG.out 0; have := HBNB.out; have := HJB.out; exact w64d (by omega) (by omega)
            go_wp2_with fail
            with_reducible refine (HFY.out _ HTC.out).mono ?_
            rintro e wd ⟨rfl, fd⟩
            have hand := HAND'.out
            have HBD := hid (HBC.out.keep fd (fun h => h))
            have cd : wd.cell? ⟨f, 0, none⟩ = some (.int .i64 (m 0)) := HBD.out.cell 0 rfl
            have zd := HBD.out.free 0
            have HTD := hid (HTC.out.keep0 fd)
            have HBS := hid (HBD.out.set' 0 (.int .i64 (m 0 + 1)) (ds := m3 (inc1 m 0)) (by simp [m3, inc1]))
            go_wp2_with fail
            clear hNX hwm hand cd zd
            go_roundw
            case rel => exact ⟨j + 1, s1, _, by have := HJB.out; omega, congrArg (Value.int .i64) HJ9.out, HTD.out.keep ((Fr.refl (· = f) wd).set1 0 (.int .i64 (m 0 + 1))) (fun b _ hb => ⟨hb, by have : b = f := hb; have := HFW.out; omega⟩), G2.out, HBS.out⟩
            case measure => (have := HJB.out; rw [HJ9.out]; simp [intOf]; omega)
          · subst ho
            clear hn1
            have HAND' : Hid (bits .and .i64 2 F1 = 0) := hid (by have h := HAND.out; exact h)
            have hNX : decide (SH ≤ 2) = false := decide_eq_false (by have h := HNX.out; have : ((2 ^ 1 : Nat) : Int) = 2 := rfl; omega)
            have HBS := hid (HBC.out.set' 1 (.int .i64 (m 1 + 1)) (ds := m3 (inc1 m 1)) (by simp [m3, inc1]))
            have hwm : wrap64 (m 1 + 1) = m 1 + 1 := by have := HRG.out 1; have := HBNB.out; have := HJB.out; exact w64d (by omega) (by omega)
            go_wp2_with fail
            with_reducible refine (HFY.out _ HTC.out).mono ?_
            rintro e wd ⟨rfl, fd⟩
            have hand := HAND'.out
            have HBD := hid (HBC.out.keep fd (fun h => h))
            have cd : wd.cell? ⟨f, 1, none⟩ = some (.int .i64 (m 1)) := HBD.out.cell 1 rfl
            have zd := HBD.out.free 1
            have HTD := hid (HTC.out.keep0 fd)
            have HBS := hid (HBD.out.set' 1 (.int .i64 (m 1 + 1)) (ds := m3 (inc1 m 1)) (by simp [m3, inc1]))
            go_wp2_with fail
            clear hNX hwm hand cd zd
            go_roundw
            case rel => exact ⟨j + 1, s1, _, by have := HJB.out; omega, congrArg (Value.int .i64) HJ9.out, HTD.out.keep ((Fr.refl (· = f) wd).set1 1 (.int .i64 (m 1 + 1))) (fun b _ hb => ⟨hb, by have : b = f := hb; have := HFW.out; omega⟩), G2.out, HBS.out⟩
            case measure => (have := HJB.out; rw [HJ9.out]; simp [intOf]; omega)
          · subst ho
            clear hn1
            have HAND' : Hid (bits .and .i64 4 F1 = 0) := hid (by have h := HAND.out; exact h)
            have hNX : decide (SH ≤ 4) = false := decide_eq_false (by have h := HNX.out; have : ((2 ^ 2 : Nat) : Int) = 4 := rfl; omega)
            have HBS := hid (HBC.out.set' 2 (.int .i64 (m 2 + 1)) (ds := m3 (inc1 m 2)) (by simp [m3, inc1]))
            have hwm : wrap64 (m 2 + 1) = m 2 + 1 := by have := HRG.out 2; have := HBNB.out; have := HJB.out; exact w64d (by omega) (by omega)
            go_wp2_with fail
            with_reducible refine (HFY.out _ HTC.out).mono ?_
            rintro e wd ⟨rfl, fd⟩
            have hand := HAND'.out
            have HBD := hid (HBC.out.keep fd (fun h => h))
            have cd : wd.cell? ⟨f, 2, none⟩ = some (.int .i64 (m 2)) := HBD.out.cell 2 rfl
            have zd := HBD.out.free 2
            have HTD := hid (HTC.out.keep0 fd)
            have HBS := hid (HBD.out.set' 2 (.int .i64 (m 2 + 1)) (ds := m3 (inc1 m 2)) (by simp [m3, inc1]))
            go_wp2_with fail
            clear hNX hwm hand cd zd
            go_roundw
            case rel => exact ⟨j + 1, s1, _, by have := HJB.out; omega, congrArg (Value.int .i64) HJ9.out, HTD.out.keep ((Fr.refl (· = f) wd).set1 2 (.int .i64 (m 2 + 1))) (fun b _ hb => ⟨hb, by have : b = f := hb; have := HFW.out; omega⟩), G2.out, HBS.out⟩
            case measure => (have := HJB.out; rw [HJ9.out]; simp [intOf]; omega)
        · have hjb' : j = bn := by omega
          clear hj hjb
          subst hjb'
          have HG9 := hid HG.out.inv
          have HFY := hid (fun W (h : T1 (· = f) w W p s A) => faulty_1 h HG9.out)
          have HBIT := hid (fun i (hi : i < 3) => faulty_bit2 (s := s) (j := i) hi)
          have HBD : Hid (∀ i, s.bd i = badB b0 b1 b2 i) := hid (fun i => by unfold TS.bd; rw [HG.out.eb0, HG.out.eb1, HG.out.eb2])
          have HEND := hid (fair_end HG.out.fair (fun i => by have := HG.out.rng i; have := HBNB.out; omega))
          generalize faultyF s = F1 at *
          go_wp2_with fail
          with_reducible refine (HBN.out wr).mono ?_
          rintro e wb ⟨rfl, rfl⟩
          go_wp2_with fail
          have HL0 : Hid (leK b0 b1 b2 m 0 = 1073741824) := hid rfl
          have HM0 : Hid (moK b0 b1 b2 m 0 = 0) := hid rfl
          have HLS : Hid (∀ k, leK b0 b1 b2 m (k + 1) = if badB b0 b1 b2 k then leK b0 b1 b2 m k else (if m k < leK b0 b1 b2 m k then m k else leK b0 b1 b2 m k)) := hid (fun k => rfl)
          have HMS : Hid (∀ k, moK b0 b1 b2 m (k + 1) = if badB b0 b1 b2 k then moK b0 b1 b2 m k else (if moK b0 b1 b2 m k < m k then m k else moK b0 b1 b2 m k)) := hid (fun k => rfl)
          generalize leK b0 b1 b2 m = le at *
          generalize moK b0 b1 b2 m = mo at *
          have HTA := HT
          have HBA := HB
          clear HT HB HG HG9
          generalize wr = we at *
          go_loopw [16, 17, 18] (fun l o i wr => ∃ k : Nat, k ≤ n ∧ i = .int .i64 k ∧ l = .int .i64 (le k) ∧ o = .int .i64 (mo k) ∧ Fr (fun _ => False) we wr) (fun _ _ i _ => n - (intOf i).toNat)
          case atStart => exact ⟨0, by omega, rfl, by rw [HL0.out], by rw [HM0.out], Fr.refl _ _⟩
          case round =>
            obtain ⟨k, hk, rfl, rfl, rfl, hf⟩ := hrel
            have HF := hid hf
            have HTK := hid (HTA.out.keep0 hf)
            clear hf
            by_cases hkn : k < n
            · have HKN := hid hkn
              have hkk : (k : Int) < (n : Int) := by omega
              have HJ9 : Hid (wrap64 ((k : Int) + 1) = ((k + 1 : Nat) : Int)) := hid (by have := HN.out; have := HKN.out; rw [w64d (by omega) (by omega)]; omega)
              have hbit := HBIT.out k (by have := HN.out; omega)
              rw [HBD.out k, Nat.min_eq_left (by have := HN.out; omega)] at hbit
              have HL1 := hid (HLS.out k)
              have HM1 := hid (HMS.out k)
              have k0 : (0 : Int) ≤ (k : Int) := by omega
              have k3 : (k : Int) < 3 := by have := HN.out; omega
              have HCK : Hid (∀ W, Fr (fun _ => False) wr W → W.cell? ⟨f, k, none⟩ = some (.int .i64 (m k))) := hid (fun W g => by
                have hB := (HBA.out.keep HF.out (fun h => h)).keep g (fun h => h)
                have h3 : k = 0 ∨ k = 1 ∨ k = 2 := by have := HN.out; omega
                rcases h3 with rfl | rfl | rfl
                · exact hB.cell 0 rfl
                · exact hB.cell 1 rfl
                · exact hB.cell 2 rfl)
              clear hkn hk
              cases hb : badB b0 b1 b2 k with
              | true =>
                rw [hb] at hbit HL1 HM1
                go_wp2_with fail
                with_reducible refine (HFY.out _ HTK.out).mono ?_
                rintro e wd ⟨rfl, fd⟩
                simp only [Bool.not_true] at hbit
                go_wp2_with fail
                clear hbit hkk k0 k3
                go_roundw
                case rel => exact ⟨k + 1, by have := HKN.out; omega, by first | exact congrArg (Value.int .i64) HJ9.out | exact congrArg (Value.int .i64) (by omega), congrArg (Value.int .i64) (by rw [HL1.out]; simp), congrArg (Value.int .i64) (by rw [HM1.out]; simp), HF.out.trans fd⟩
                case measure => (have := HKN.out; (try rw [HJ9.out]); simp [intOf]; omega)
              | false =>
                rw [hb] at hbit HL1 HM1
                simp only [Bool.not_false] at hbit
                go_wp2_with fail
                with_reducible refine (HFY.out _ HTK.out).mono ?_
                rintro e wd ⟨rfl, fd⟩
                have hck := HCK.out wd fd
                go_wp2_with fail
                clear hbit hkk k0 k3 hck
                go_roundw
                case rel => exact ⟨k + 1, by have := HKN.out; omega, by first | exact congrArg (Value.int .i64) HJ9.out | exact congrArg (Value.int .i64) (by omega), congrArg (Value.int .i64) (by rw [HL1.out]; simp), congrArg (Value.int .i64) (by rw [HM1.out]; simp), HF.out.trans fd⟩
                case measure => (have := HKN.out; (try rw [HJ9.out]); simp [intOf]; omega)
            · have hkn' : k = n := by omega
              subst hkn'
              have hwd : wrap64 (mo k - le k) = mo k - le k := w64d (by have := HEND.out; omega) (by have := HEND.out; omega)
              have HD : Hid (decide (mo k - le k ≤ 1) = true) := hid (decide_eq_true HEND.out.1)
              have hdd := HD.out
              clear hk hkn
              go_wp2_with fail
              go_ret
              exact ⟨rfl, (HTA.out.fr.trans HF.out).below (Nat.le_refl _) (fun _ h => h.elim)⟩
end Go.Proofs.Ytalbncnhmofgaaa
