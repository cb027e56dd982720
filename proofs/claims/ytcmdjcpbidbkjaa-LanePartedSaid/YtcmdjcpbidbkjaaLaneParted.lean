/-
  THE WALK OF THE LAW LaneParted. Conditions: none.
-/
import Derived.Test.YtcmdjcpbidbkjaaLaneWorks
namespace Go.Proofs.Ytcmdjcpbidbkjaa
open Go.RowKit

theorem div_not (s : Int) (n : Nat) : (-1 - s) / 2 ^ n = -1 - s / 2 ^ n := by
  have hp : (0 : Int) < 2 ^ n := by exact_mod_cast Nat.two_pow_pos n
  generalize (2 : Int) ^ n = p at *
  have h1 := Int.emod_add_mul_ediv s p
  have h2 := Int.emod_nonneg s (by omega : p ≠ 0)
  have h3 := Int.emod_lt_of_pos s hp
  refine (Int.ediv_emod_unique hp (r := p - 1 - s % p)).2 ⟨?_, by omega, by omega⟩ |>.1
  have h5 : p * (-1 - s / p) = - p - p * (s / p) := by rw [Int.mul_sub]; omega
  omega
theorem sideB_not (s n : Int) : sideB (-1 - s) n = 1 - sideB s n := by
  unfold sideB; rw [div_not]; omega
theorem sideB_bd (s n : Int) : sideB s n = 0 ∨ sideB s n = 1 := by unfold sideB; omega
theorem reachB_not (s a b : Int) : reachB (-1 - s) a b = reachB s a b := by
  unfold reachB; rw [sideB_not, sideB_not]; congr 1; rw [decide_eq_decide]; omega
theorem reachB_comm (s a b : Int) : reachB s b a = reachB s a b := by
  unfold reachB; rw [Bool.and_comm (nodeB b)]; congr 1; rw [decide_eq_decide]; exact eq_comm
theorem reachB_node (s : Int) (a b : Nat) (ha : 1 ≤ a ∧ a ≤ 8) (hb : 1 ≤ b ∧ b ≤ 8) : reachB s a b = decide (sideB s a = sideB s b) := by
  unfold reachB nodeB
  rw [decide_eq_true (by omega), decide_eq_true (by omega)]; simp
theorem reachB_zero (a b : Nat) (ha : 1 ≤ a ∧ a ≤ 8) (hb : 1 ≤ b ∧ b ≤ 8) : reachB 0 a b = true := by
  rw [reachB_node 0 a b ha hb]; unfold sideB; simp
theorem reachB_all (a b : Nat) (ha : 1 ≤ a ∧ a ≤ 8) (hb : 1 ≤ b ∧ b ≤ 8) : reachB (-1) a b = true := by
  have := reachB_not 0 a b
  rw [show ((-1 : Int) - 0) = -1 from rfl] at this
  rw [this, reachB_zero a b ha hb]
theorem and_one (x : Int) : bits .and .i64 x 1 = x % 2 := by
  have := par_xor x 0
  have h0 : bits .xor .i64 x 0 = IntKind.i64.wrap ((BitVec.ofInt 64 x ^^^ BitVec.ofInt 64 0).toNat : Int) := rfl
  have h1 : ∀ c : Int, bits .and .i64 c 1 = IntKind.i64.wrap ((BitVec.ofInt 64 c &&& BitVec.ofInt 64 1).toNat : Int) := fun _ => rfl
  rw [h1, BitVec.toNat_and]
  have e1 : (BitVec.ofInt 64 1).toNat = 1 := by decide
  have hx := ofInt_mod x
  rw [e1, Nat.and_one_is_mod]
  generalize (BitVec.ofInt 64 x).toNat = p at *
  rw [wrap_i64_nat _ (by omega)]
  omega

theorem not_i64 (s : Int) (h : (Lit.int .i64 s).wf = true) : bits .xor .i64 (-1) s = -1 - s := by
  have hb := wf_i64_bd h
  have h0 : bits .xor .i64 (-1) s = IntKind.i64.wrap ((BitVec.ofInt 64 (-1) ^^^ BitVec.ofInt 64 s).toNat : Int) := rfl
  have e1 : BitVec.ofInt 64 (-1) = BitVec.allOnes 64 := by decide
  rw [h0, e1, BitVec.allOnes_xor, BitVec.toNat_not, IntKind.wrap_i64]
  have h1 := ofInt_mod s
  have h2 := (BitVec.ofInt 64 s).isLt
  generalize (BitVec.ofInt 64 s).toNat = p at *
  omega
theorem LS.same {w w' : World} {g : Nat} {side : Int} {v : Value} {ds : List Dg} (h : LS w g side v ds) (f : Fr (fun _ => False) w w') : LS w' g side v ds := h.keep f (fun h => h) (fun _ _ h => h)

theorem lreach_q {w0 : World} {g : Nat} {side : Int} {v : Value} {ds : List Dg} (a b : Int) (r : Bool) (w : World) (h : LA w0 w g side v ds) (hr : reachB side a b = r) (n : Nat) : Calls Try.prog 24 #[.pointer (some ⟨g, 0, none⟩), .int .i64 a, .int .i64 b] (w.drewN n) fun e w' => e = .returned (.bool r) ∧ ∃ m, w' = (w.drewN n).drewN m :=
  lreach_c a b r (w.drewN n) (h.keep ((Fr.refl (fun _ => False) w).drewN n)) hr

set_option maxRecDepth 100000 in
set_option maxHeartbeats 4000000 in
theorem parted_walk (side other : Int) (w : World) (hw0 : (Lit.int .i64 side).wf = true) (_hw1 : (Lit.int .i64 other).wf = true) :
    Calls Try.prog 5 #[.int .i64 side, .int .i64 other] w fun e w' => e = .returned (.bool true) ∧ Below w.heap.size w w' := by
  go_enter Try.func5, Try.ntmps5
  go_wp2_with fail
  refine (works_any w).mono ?_
  rintro e w1 ⟨rfl, f1⟩
  have F1 := hid f1
  clear f1
  go_wp2_with fail
  refine (lnew_c w1).mono ?_
  rintro e w2 ⟨g, rfl, h⟩
  have H2 := hid (h.base F1.out)
  clear h
  go_wp2_with fail
  refine (lnew_c w2).mono ?_
  rintro e w3 ⟨y, rfl, h⟩
  have H3 := hid (H2.out.keep h.fr)
  have Y3 := hid h
  have HLO : Hid (w.heap.size ≤ y) := hid (Nat.le_trans H2.out.fr.size h.lo)
  have HGY : Hid (g ≠ y) := hid (by have := H2.out.ls.blk.lt; have := h.lo; omega)
  clear h H2
  go_wp2_with fail
  refine (lcut_c other w3 H3.out).mono ?_
  rintro e w4 ⟨rfl, h, f4⟩
  have H4 := hid h
  have Y4 : Hid (LS w4 y 0 (.slice none 0 0) []) := hid (Y3.out.ls.keep f4 (fun e => HGY.out e.symm) (fun k hk => by simp [feet, footOf, Value.ownBlock] at hk))
  clear h f4 H3 Y3
  go_wp2_with fail
  refine (lcut_c side w4 H4.out).mono ?_
  rintro e w5 ⟨rfl, h, f5⟩
  have H5 := hid h
  have Y5 : Hid (LS w5 y 0 (.slice none 0 0) []) := hid (Y4.out.keep f5 (fun e => HGY.out e.symm) (fun k hk => by simp [feet, footOf, Value.ownBlock] at hk))
  clear h f5 H4 Y4
  go_wp2_with fail
  refine (lcut_any (bits .xor .i64 (-1) side) w5 Y5.out).mono ?_
  rintro e w6 ⟨rfl, h, f6⟩
  have Y6 : Hid (LS w6 y (-1 - side) (.slice none 0 0) []) := hid (by rw [not_i64 side hw0] at h; exact h)
  have X6 : Hid (LS w6 g side (.slice none 0 0) []) := hid (H5.out.ls.keep f6 (fun e => HGY.out e) (fun k hk => by simp [feet, footOf, Value.ownBlock] at hk))
  have HF6 : Hid (Fr (fun _ => False) w w6) := hid (H5.out.fr.step f6 (fun k hk e => by have := HLO.out; omega))
  have HLG : Hid (w.heap.size ≤ g) := hid H5.out.lo
  clear h f6 H5 Y5
  have HR := hid fun (W : World) (h : Fr (fun _ => False) w6 W) (a b : Int) => lreach_any a b W (X6.out.same h)
  have HQ := hid fun (W : World) (h : Fr (fun _ => False) w6 W) (a b : Nat) (r : Bool) (hr : reachB side b a = r) (n : Nat) => (by have := lreach_any (b : Int) (a : Int) (W.drewN n) (X6.out.same (h.drewN n)); rw [hr] at this; exact this : Calls Try.prog 24 #[.pointer (some ⟨g, 0, none⟩), .int .i64 (b : Int), .int .i64 (a : Int)] (W.drewN n) fun e w' => e = .returned (.bool r) ∧ ∃ m, w' = (W.drewN n).drewN m)
  have HY := hid fun (W : World) (h : Fr (fun _ => False) w6 W) (a b : Nat) (r : Bool) (hr : reachB (-1 - side) a b = r) (n : Nat) => (by have := lreach_any (a : Int) (b : Int) (W.drewN n) (Y6.out.same (h.drewN n)); rw [hr] at this; exact this : Calls Try.prog 24 #[.pointer (some ⟨y, 0, none⟩), .int .i64 (a : Int), .int .i64 (b : Int)] (W.drewN n) fun e w' => e = .returned (.bool r) ∧ ∃ m, w' = (W.drewN n).drewN m)
  go_wp2_with fail
  go_loopw [7] (fun i wr => ∃ a : Nat, 1 ≤ a ∧ a ≤ 9 ∧ i = .int .i64 a ∧ Fr (fun _ => False) w6 wr) (fun i _ => 9 - (intOf i).toNat)
  case atStart => exact ⟨1, by omega, by omega, rfl, Fr.refl _ _⟩
  case round =>
    obtain ⟨a, ha1, ha9, rfl, hf⟩ := hrel
    by_cases hla : a ≤ 8
    · go_wp2_with fail
      go_loopw [8] (fun i wr => ∃ b : Nat, 1 ≤ b ∧ b ≤ 9 ∧ i = .int .i64 b ∧ Fr (fun _ => False) w6 wr) (fun i _ => 9 - (intOf i).toNat)
      case atStart => exact ⟨1, by omega, by omega, rfl, hf⟩
      case round =>
        clear hf
        obtain ⟨b, hb1, hb9, rfl, hf⟩ := hrel
        by_cases hlb : b ≤ 8
        · obtain ⟨r, hr⟩ : ∃ r, reachB side a b = r := ⟨_, rfl⟩
          have hrn := reachB_node side a b ⟨ha1, hla⟩ ⟨hb1, hlb⟩
          have HA0 := hid (HR.out wr hf a b)
          rw [hr] at HA0
          go_wp2_with fail
          refine HA0.out.mono ?_
          rintro e w7 ⟨rfl, m, hw7⟩
          have HF7 : Hid (Fr (fun _ => False) w6 w7) := hid (by subst hw7; exact hf.drewN m)
          clear hw7 HA0 m
          have HQ1 := hid (HQ.out w7 HF7.out a b r (by rw [reachB_comm]; exact hr))
          have HQ2 := hid (HY.out w7 HF7.out a b r (by rw [reachB_not]; exact hr))
          have HT : Hid (∀ c : Nat, 1 ≤ c → c ≤ 8 → r = true → reachB side b c = true → reachB side a c = true) := hid (by
            intro c c1 c2 h1 h2
            rw [reachB_node side b c ⟨hb1, hlb⟩ ⟨c1, c2⟩] at h2
            rw [reachB_node side a c ⟨ha1, hla⟩ ⟨c1, c2⟩]
            rw [hrn] at hr
            have h3 : decide (sideB side a = sideB side b) = true := by rw [hr, h1]
            have h4 := of_decide_eq_true h3
            have h5 := of_decide_eq_true h2
            exact decide_eq_true (h4.trans h5))
          have a0 : (0 : Int) ≤ (a : Int) := by omega
          have b0 : (0 : Int) ≤ (b : Int) := by omega
          have a1 : ¬ (a : Int) < 0 := by omega
          have b1 : ¬ (b : Int) < 0 := by omega
          have hA := and_one (side / 2 ^ a)
          have hB := and_one (side / 2 ^ b)
          have hS : decide (side / 2 ^ a % 2 = side / 2 ^ b % 2) = r := by rw [← hr, hrn]; unfold sideB; simp only [Int.toNat_natCast]
          clear hr hrn hf
          cases r with
          | true =>
            have hS := of_decide_eq_true hS
            generalize side / 2 ^ a % 2 = x at hA hS
            generalize side / 2 ^ b % 2 = z at hB hS
            subst hS
            by_cases hab : a = b
            · subst hab
              go_wp2_with fail
              go_quiet (first | (go_at_call 24; with_reducible refine Calls.quiet_of (HQ1.out _)) | (go_at_call 24; with_reducible refine Calls.quiet_of (HQ2.out _)))
              have HF8 := hid (HF7.out.drewN nq)
              generalize w7.drewN nq = w8 at *
              clear HQ1 HQ2 HF7 hA hB
              go_wp2_with fail
              go_loopw [10] (fun i wr => ∃ c : Nat, 1 ≤ c ∧ c ≤ 9 ∧ i = .int .i64 c ∧ Fr (fun _ => False) w6 wr) (fun i _ => 9 - (intOf i).toNat)
              case atStart => exact ⟨1, by omega, by omega, rfl, HF8.out⟩
              case round =>
                obtain ⟨c, hc1, hc9, rfl, hf⟩ := hrel
                by_cases hlc : c ≤ 8
                · obtain ⟨r2, hr2⟩ : ∃ r2, reachB side a c = r2 := ⟨_, rfl⟩
                  have HB0 := hid (HR.out wr hf a c)
                  rw [hr2] at HB0
                  have HR3 : Hid (r2 = true → reachB side a c = true) := hid (fun h => HT.out c hc1 hlc (by simp) (by rw [hr2]; exact h))
                  clear hr2
                  go_wp2_with fail
                  refine HB0.out.mono ?_
                  rintro e w9 ⟨rfl, m, hw9⟩
                  have hf9 : Fr (fun _ => False) w6 w9 := by subst hw9; exact hf.drewN m
                  clear hw9 HB0 m hf
                  cases r2 with
                  | true =>
                    have HC0 := hid (HR.out w9 hf9 a c)
                    rw [HR3.out rfl] at HC0
                    go_wp2_with fail
                    refine HC0.out.mono ?_
                    rintro e w10 ⟨rfl, m, hw10⟩
                    have hf10 : Fr (fun _ => False) w6 w10 := by subst hw10; exact hf9.drewN m
                    clear hw10 HC0 m hf9 HR3
                    go_wp2_with fail
                    go_roundw
                    case rel => exact ⟨c + 1, by omega, by omega, by go_num, hf10⟩
                    case measure => simp [intOf]; omega
                  | false =>
                    go_wp2_with fail
                    go_roundw
                    case rel => exact ⟨c + 1, by omega, by omega, by go_num, hf9⟩
                    case measure => simp [intOf]; omega
                · have hc : c = 9 := by omega
                  subst hc
                  go_wp2_with fail
                  go_roundw
                  case rel => ((repeat apply Exists.intro); refine ⟨⟨a + 1, by omega, by omega, ?qa, hf⟩, ?qb⟩; (case qb => (first | rfl | (simp only [Act.mk.injEq, Array.mk.injEq, List.cons.injEq, true_and, and_true]; repeat' (first | refine And.intro ?_ ?_ | rfl | (congr 1; exact (decide_eq_true (by omega)).symm) | trace_state)))); (case qa => go_num))
                  case measure => simp [intOf]; omega
            · have hne : ¬ ((a : Int) = (b : Int)) := by omega
              go_wp2_with fail
              go_quiet (first | (go_at_call 24; with_reducible refine Calls.quiet_of (HQ1.out _)) | (go_at_call 24; with_reducible refine Calls.quiet_of (HQ2.out _)))
              have HF8 := hid (HF7.out.drewN nq)
              generalize w7.drewN nq = w8 at *
              clear HQ1 HQ2 HF7 hA hB
              go_wp2_with fail
              go_loopw [10] (fun i wr => ∃ c : Nat, 1 ≤ c ∧ c ≤ 9 ∧ i = .int .i64 c ∧ Fr (fun _ => False) w6 wr) (fun i _ => 9 - (intOf i).toNat)
              case atStart => exact ⟨1, by omega, by omega, rfl, HF8.out⟩
              case round =>
                obtain ⟨c, hc1, hc9, rfl, hf⟩ := hrel
                by_cases hlc : c ≤ 8
                · obtain ⟨r2, hr2⟩ : ∃ r2, reachB side b c = r2 := ⟨_, rfl⟩
                  have HB0 := hid (HR.out wr hf b c)
                  rw [hr2] at HB0
                  have HR3 : Hid (r2 = true → reachB side a c = true) := hid (fun h => HT.out c hc1 hlc (by simp) (by rw [hr2]; exact h))
                  clear hr2
                  go_wp2_with fail
                  refine HB0.out.mono ?_
                  rintro e w9 ⟨rfl, m, hw9⟩
                  have hf9 : Fr (fun _ => False) w6 w9 := by subst hw9; exact hf.drewN m
                  clear hw9 HB0 m hf
                  cases r2 with
                  | true =>
                    have HC0 := hid (HR.out w9 hf9 a c)
                    rw [HR3.out rfl] at HC0
                    go_wp2_with fail
                    refine HC0.out.mono ?_
                    rintro e w10 ⟨rfl, m, hw10⟩
                    have hf10 : Fr (fun _ => False) w6 w10 := by subst hw10; exact hf9.drewN m
                    clear hw10 HC0 m hf9 HR3
                    go_wp2_with fail
                    go_roundw
                    case rel => exact ⟨c + 1, by omega, by omega, by go_num, hf10⟩
                    case measure => simp [intOf]; omega
                  | false =>
                    go_wp2_with fail
                    go_roundw
                    case rel => exact ⟨c + 1, by omega, by omega, by go_num, hf9⟩
                    case measure => simp [intOf]; omega
                · have hc : c = 9 := by omega
                  subst hc
                  go_wp2_with fail
                  go_roundw
                  case rel => ((repeat apply Exists.intro); refine ⟨⟨b + 1, by omega, by omega, ?qa, hf⟩, ?qb⟩; (case qb => (first | rfl | (simp only [Act.mk.injEq, Array.mk.injEq, List.cons.injEq, true_and, and_true]; repeat' (first | refine And.intro ?_ ?_ | rfl | (congr 1; exact (decide_eq_true (by omega)).symm) | trace_state)))); (case qa => go_num))
                  case measure => simp [intOf]; omega
          | false =>
            have hS := of_decide_eq_false hS
            have hne : ¬ ((a : Int) = (b : Int)) := by
              intro h
              have h2 : a = b := by omega
              subst h2
              exact hS rfl
            generalize side / 2 ^ a % 2 = x at hA hS
            generalize side / 2 ^ b % 2 = z at hB hS
            go_wp2_with fail
            go_quiet (first | (go_at_call 24; with_reducible refine Calls.quiet_of (HQ1.out _)) | (go_at_call 24; with_reducible refine Calls.quiet_of (HQ2.out _)))
            have HF8 := hid (HF7.out.drewN nq)
            generalize w7.drewN nq = w8 at *
            clear HQ1 HQ2 HF7 hA hB
            go_wp2_with fail
            go_loopw [10] (fun i wr => ∃ c : Nat, 1 ≤ c ∧ c ≤ 9 ∧ i = .int .i64 c ∧ Fr (fun _ => False) w6 wr) (fun i _ => 9 - (intOf i).toNat)
            case atStart => exact ⟨1, by omega, by omega, rfl, HF8.out⟩
            case round =>
              obtain ⟨c, hc1, hc9, rfl, hf⟩ := hrel
              by_cases hlc : c ≤ 8
              · go_wp2_with fail
                go_roundw
                case rel => exact ⟨c + 1, by omega, by omega, by go_num, hf⟩
                case measure => simp [intOf]; omega
              · have hc : c = 9 := by omega
                subst hc
                go_wp2_with fail
                go_roundw
                case rel => ((repeat apply Exists.intro); refine ⟨⟨b + 1, by omega, by omega, ?qa, hf⟩, ?qb⟩; (case qb => (first | rfl | (simp only [Act.mk.injEq, Array.mk.injEq, List.cons.injEq, true_and, and_true]; repeat' (first | refine And.intro ?_ ?_ | rfl | (congr 1; exact (decide_eq_true (by omega)).symm) | trace_state)))); (case qa => go_num))
                case measure => simp [intOf]; omega
        · have hb : b = 9 := by omega
          subst hb
          go_wp2_with fail
          go_roundw
          case rel => exact ⟨a + 1, by omega, by omega, by go_num, hf⟩
          case measure => simp [intOf]; omega
    · have ha : a = 9 := by omega
      subst ha
      have HF7 := hid hf
      have X7 := hid (X6.out.same hf)
      have Y7 := hid (Y6.out.same hf)
      clear hf HR HQ HY X6 Y6 hla
      go_wp2_with fail
      refine (lcut_any 0 wr X7.out).mono ?_
      rintro e w8 ⟨rfl, h, f8⟩
      have X8 : Hid (LS w8 g 0 (.slice none 0 0) []) := hid h
      have Y8 : Hid (LS w8 y (-1 - side) (.slice none 0 0) []) := hid (Y7.out.keep f8 (fun e => HGY.out e.symm) (fun k hk => by simp [feet, footOf, Value.ownBlock] at hk))
      have HF8 : Hid (Fr (fun _ => False) w w8) := hid ((HF6.out.trans HF7.out).step f8 (fun k hk e => by have := HLG.out; omega))
      clear h f8 X7 Y7 HF7
      go_wp2_with fail
      refine (lcut_any (-1) w8 Y8.out).mono ?_
      rintro e w9 ⟨rfl, h, f9⟩
      have Y9 : Hid (LS w9 y (-1) (.slice none 0 0) []) := hid h
      have X9 : Hid (LS w9 g 0 (.slice none 0 0) []) := hid (X8.out.keep f9 (fun e => HGY.out e) (fun k hk => by simp [feet, footOf, Value.ownBlock] at hk))
      have HF9 : Hid (Fr (fun _ => False) w w9) := hid (HF8.out.step f9 (fun k hk e => by have := HLO.out; omega))
      clear h f9 X8 Y8 HF8
      go_wp2_with fail
      go_loopw [11] (fun i wr => ∃ k : Nat, k ≤ 64 ∧ i = .int .i64 k ∧ Fr (fun _ => False) w9 wr) (fun i _ => 64 - (intOf i).toNat)
      case atStart => exact ⟨0, by omega, rfl, Fr.refl _ _⟩
      case round =>
        obtain ⟨k, hk, rfl, hf⟩ := hrel
        by_cases hlk : k < 64
        · have X := hid (X9.out.same hf)
          have k0 : 1 + (k : Int) / 8 = ((1 + k / 8 : Nat) : Int) := by omega
          have k1 : 1 + (k : Int) % 8 = ((1 + k % 8 : Nat) : Int) := by omega
          have X := hid (by have := lreach_any (1 + (k : Int) / 8) (1 + (k : Int) % 8) wr X.out; rw [show reachB 0 (1 + (k : Int) / 8) (1 + (k : Int) % 8) = true by rw [k0, k1]; exact reachB_zero _ _ ⟨by omega, by omega⟩ ⟨by omega, by omega⟩] at this; exact this)
          have hy : reachB (-1) (1 + (k : Int) / 8) (1 + (k : Int) % 8) = true := by rw [k0, k1]; exact reachB_all _ _ ⟨by omega, by omega⟩ ⟨by omega, by omega⟩
          have HYT := hid hy
          clear k0 k1 hy
          go_wp2_with fail
          refine X.out.mono ?_
          rintro e w10 ⟨rfl, m, h10⟩
          have HF10 : Hid (Fr (fun _ => False) w9 w10) := hid (by subst h10; exact hf.drewN m)
          clear X h10 hf m
          have Y := hid (by have := lreach_any (1 + (k : Int) / 8) (1 + (k : Int) % 8) w10 (Y9.out.same HF10.out); rw [HYT.out] at this; exact this)
          go_wp2_with fail
          refine Y.out.mono ?_
          rintro e w11 ⟨rfl, m, h11⟩
          have HF11 : Hid (Fr (fun _ => False) w9 w11) := hid (by subst h11; exact HF10.out.drewN m)
          clear Y h11 HF10 m
          go_wp2_with fail
          go_roundw
          case rel => exact ⟨k + 1, by omega, by go_num, HF11.out⟩
          case measure => simp [intOf]; omega
        · have hk64 : k = 64 := by omega
          subst hk64
          have HF := hid (HF9.out.trans hf)
          have X := hid (X9.out.same hf)
          clear hf X9 Y9 HF9 hlk
          go_wp2_with fail
          refine (lreach_any 0 1 wr X.out).mono ?_
          rw [show reachB 0 0 1 = false by decide]
          rintro e w10 ⟨rfl, m, h10⟩
          have HF10 : Hid (Fr (fun _ => False) w w10) := hid (by subst h10; exact HF.out.drewN m)
          have X10 : Hid (LS w10 g 0 (.slice none 0 0) []) := hid (by subst h10; exact X.out.same ((Fr.refl _ _).drewN m))
          clear HF X h10 m
          go_wp2_with fail
          refine (lreach_any 1 9 w10 X10.out).mono ?_
          rw [show reachB 0 1 9 = false by decide]
          rintro e w11 ⟨rfl, m, h11⟩
          have HF11 : Hid (Fr (fun _ => False) w w11) := hid (by subst h11; exact HF10.out.drewN m)
          clear HF10 X10 h11 m
          go_wp2_with fail
          go_ret
          exact ⟨rfl, HF11.out.below (Nat.le_refl _) (fun _ h => h.elim)⟩
end Go.Proofs.Ytcmdjcpbidbkjaa
