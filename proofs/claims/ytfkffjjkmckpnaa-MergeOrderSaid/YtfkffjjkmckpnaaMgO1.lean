/-
  MERGES (ch 25): told. Conditions: fewer than 2^44 turns.
-/
import Derived.Test.YtfkffjjkmckpnaaMgO0
import Derived.Test.YtfkffjjkmckpnaaMgM
import Derived.Deep.CutBlock
import Derived.Deep.LoopGhost
namespace Go.Proofs.Ytfkffjjkmckpnaa
open Go.RowKit Go.ChangeShapes Go.WideShapes Go.Deep

set_option linter.unusedSimpArgs false
set_option maxRecDepth 100000
def arr9 (f : Nat → Int) : Array Value := #[.int .i64 (f 0), .int .i64 (f 1), .int .i64 (f 2), .int .i64 (f 3), .int .i64 (f 4), .int .i64 (f 5), .int .i64 (f 6), .int .i64 (f 7), .int .i64 (f 8)]
theorem arr9_at (f : Nat → Int) {s : Nat} (h : s < 9) : (arr9 f)[s]? = some (.int .i64 (f s)) := by
  have : s = 0 ∨ s = 1 ∨ s = 2 ∨ s = 3 ∨ s = 4 ∨ s = 5 ∨ s = 6 ∨ s = 7 ∨ s = 8 := by omega
  rcases this with rfl | rfl | rfl | rfl | rfl | rfl | rfl | rfl | rfl <;> rfl
theorem arr9_set (f : Nat → Int) {s : Nat} (h : s < 9) (a : Int) : (arr9 f).setIfInBounds s (.int .i64 a) = arr9 (set1 f s a) := by
  have : s = 0 ∨ s = 1 ∨ s = 2 ∨ s = 3 ∨ s = 4 ∨ s = 5 ∨ s = 6 ∨ s = 7 ∨ s = 8 := by omega
  rcases this with rfl | rfl | rfl | rfl | rfl | rfl | rfl | rfl | rfl <;> rfl
theorem zeroArr9 (W : World) : (zeroValue 77).run Try.prog W = .ok (.agg #[.int .i64 0, .int .i64 0, .int .i64 0, .int .i64 0, .int .i64 0, .int .i64 0, .int .i64 0, .int .i64 0, .int .i64 0]) W := by kernel_rfl
theorem wpList_append_ints {w : World} {ops : Array Oper} {rest : List Oper} {o : Oper} {a : Act} {Q : Exit → Act → World → Prop} (hgd : o.guard = none) (s x : Operand)
    (hop : o.op = Op.call { callee := Callee.builtin Builtin.append, args := #[s, x], argTypes := #[23, 23] })
    (v : Value) (K L : List Int) (hs : a.eval s = v) (hown : w.ownsRow 0 3 1 v K.length (K.map (.int .i64))) (u : Value) (hx : a.eval x = u) (hv : w.ownsRow 0 3 1 u L.length (L.map (.int .i64))) (b1 : K.length + L.length ≤ 100000)
    (hK : ∀ v' w', w'.ownsRow 0 3 1 v' (K ++ L).length ((K ++ L).map (.int .i64)) → Fr (· ∈ footOf v) w w' → Grows w (footOf v) (footOf v') → wpList Try.prog ops Q rest (a.put o.dst v') w') :
    wpList Try.prog ops Q (o :: rest) a w := by
  obtain ⟨i, hi, i1, i2, i3⟩ := intI
  rcases hv.2 with ⟨rfl, h0⟩ | ⟨g, cap, cur, rfl, _⟩
  · have hL : L = [] := List.eq_nil_of_length_eq_zero h0
    subst hL
    refine wpList_plain hgd fun K' hK' => ?_
    have hrun := run_append_owned_none (P := Try.prog) (w := w) 0 23 o.type 3 i 1 Try.underlying23 hi v K.length (K.map (.int .i64)) hown
    unfold Oper.wp
    simp [execOp, hop, resolve, invoke, builtin, hs, hx, hrun, Result.andThen]
    exact hK' _ _ (hK v w (by simpa using hown) (Fr.refl _ _) (Grows.refl _ _))
  · exact wpList_append_row hgd s x 23 hop 3 i (.int .i64 0) 1 8 Try.underlying23 hi i1 i2 i3 rfl (by decide) v K.length (K.map (.int .i64)) hs hown ⟨g, 0, none⟩ L.length cap (L.map (.int .i64)) hx (by simp) (fun j z hz => hv.cells (g := g) rfl j z hz) (fun z hz => by obtain ⟨y, _, rfl⟩ := List.mem_map.1 hz; rfl) (by unfold maxLen; omega) (by omega)
      (fun v' w' q1 q2 q3 _ => hK v' w' (by rw [List.length_append, List.map_append]; exact q1) q2 q3)
theorem min40 (l : Nat) : (if 40 < l then (40 : Int) else (l : Int)) = ((min l 40 : Nat) : Int) ∧ (if (40 : Int) < (l : Int) then (40 : Int) else (l : Int)) = ((min l 40 : Nat) : Int) := by
  constructor
  · split <;> omega
  · split <;> omega
theorem getD_mem {l : List Int} {m : Nat} (h : m < l.length) : l.getD m 0 ∈ l := by rw [List.getD_eq_getElem?_getD, List.getElem?_eq_getElem h]; exact List.getElem_mem h
theorem forkP {Q G : Prop} (h1 : (True → G) → Q) (h2 : True → G) : Q := h1 h2
theorem cast_set (g : Nat → Nat) (i x : Nat) : (fun s => ((set1 g i x s : Nat) : Int)) = set1 (fun s => ((g s : Nat) : Int)) i (x : Int) := by
  funext t; unfold set1; split <;> rfl
theorem sum_set (ls : List (List Int)) (g : Nat → Nat) (i x : Nat) : (fun s => sumS (rowL ls s) (set1 g i x s)) = set1 (fun s => sumS (rowL ls s) (g s)) i (sumS (rowL ls i) x) := by
  funext t; unfold set1
  by_cases e : t = i
  · subst e; simp
  · simp [e]
/-- Blocks of a merge that is told by turns. -/
structure GP (w : World) (za zs : Nat) (fp gp : Nat → Prop) : Prop where
  own : ∀ b, gp b → fp b ∨ w.heap.size ≤ b
  a : ¬ gp za
  s : ¬ gp zs
theorem GP.more {w W W' : World} {za zs : Nat} {fp gp : Nat → Prop} (h : GP w za zs fp gp) (hw : w.heap.size ≤ W.heap.size) (h1 : za < W.heap.size) (h2 : zs < W.heap.size) : GP w za zs fp (fpN gp W W') := by
  refine ⟨fun b hb => ?_, fun hb => ?_, fun hb => ?_⟩
  · rcases hb with hb | hb
    · exact h.own b hb
    · exact .inr (by omega)
  · rcases hb with hb | hb
    · exact h.a hb
    · omega
  · rcases hb with hb | hb
    · exact h.s hb
    · omega
theorem sumN_out {ls : List (List Int)} {m : Nat} (h : ls.length ≤ m) : sumN m (capL ls) = sumN ls.length (capL ls) := by
  induction m with
  | zero => rw [show ls.length = 0 by omega]
  | succ m ih =>
    by_cases e : ls.length ≤ m
    · show sumN m (capL ls) + capL ls m = _
      rw [ih e]
      unfold capL rowL
      rw [show ls.getD m [] = [] by rw [List.getD_eq_getElem?_getD, List.getElem?_eq_none e]; rfl]
      simp
    · rw [show m + 1 = ls.length by omega]
set_option maxHeartbeats 4000000 in
theorem told_any (ls : List (List Int)) (ts : List Int) (n : Nat) (p : Nat) (fp : Nat → Prop) (vl vt : Value) (w0 w : World) (hf0 : Fr (fun _ => False) w0 w) (hfp : ∀ b, fp b → w0.heap.size ≤ b) (hMO : MO w p (isP n (fun _ => 0) (fun _ => [])) (ky 0) fp) (hLL : IsLL w0 vl ls) (hVT : Vw .i64 w0 vt ts) (hT64 : I64s ts) (hTl : ts.length ≤ 17592186044416) (hn : n = min (max ls.length 1) 9) :
    Calls Try.prog 10 #[.pointer (some ⟨p, 0, none⟩), vl, .int .i64 n, vt] w fun e w' => ∃ (u : Value) (X : List Int), e = .returned (.tuple #[u, .bool true]) ∧ w'.ownsRow 0 3 1 u X.length (X.map (.int .i64)) ∧ Above w.heap.size (footOf u) ∧ X.Pairwise (· < ·) ∧ X.length = sumN n (capL ls) ∧ (∀ a, a ∈ X ↔ ∃ s, s < n ∧ a ∈ ptsL (rowL ls s) s (capL ls s)) ∧ Fr fp w w' := by
  have HKY := hid (fun n W => key_any n W)
  have HON := hid (fun n W => one_any n W)
  unfold Ky.agg at HKY
  simp only [] at HKY
  have HMO := hid hMO
  have HLL := hid hLL
  have HF0 := hid hf0
  have HFP := hid hfp
  have HVT := hid hVT
  have HT64 := hid hT64
  obtain ⟨ao, cap, rfl, hlc, hcm, _⟩ := id hLL
  obtain ⟨at0, tcap, rfl, htc, htm, htn, htcl⟩ := id hVT
  have HTC := hid htcl
  obtain ⟨N, hN⟩ : ∃ N, N = ls.length := ⟨_, rfl⟩
  rw [← hN] at HLL hlc hn ⊢
  have HNL := hid hN
  obtain ⟨TT, hTT⟩ : ∃ TT, TT = ts.length := ⟨_, rfl⟩
  rw [← hTT] at HVT htc hTl ⊢
  have HTT := hid hTT
  have HTB := hid hTl
  have hN9 : N ≤ 9223372036854775807 := by unfold maxLen at hcm; omega
  have hT9 : TT ≤ 9223372036854775807 := by omega
  have HNN : Hid (1 ≤ n ∧ n ≤ 9 ∧ (n ≤ N ∨ N = 0) ∧ (N < n → N = 0) ∧ n = min (max N 1) 9) := hid ⟨by omega, by omega, by omega, by omega, hn⟩
  clear hf0 hfp hMO hLL hVT hT64 hN hTT hlc hcm htc htm htn htcl hTl hn
  go_enter Try.func10, Try.ntmps10
  go_wp2_with (refine wpList_new rfl 77 rfl #[.int .i64 0, .int .i64 0, .int .i64 0, .int .i64 0, .int .i64 0, .int .i64 0, .int .i64 0, .int .i64 0, .int .i64 0] zeroArr9 ?_)
  intro za w1 hza B1 f1 z1
  have HB1 := hid B1
  have HF1 := hid f1
  have HZA := hid hza
  clear hza B1 f1
  go_wp2_with (refine wpList_new rfl 77 rfl #[.int .i64 0, .int .i64 0, .int .i64 0, .int .i64 0, .int .i64 0, .int .i64 0, .int .i64 0, .int .i64 0, .int .i64 0] zeroArr9 ?_)
  intro zs w2 hzs B2 f2 z2
  have HA2 : Hid (Blk w2 za (arr9 fun _ => 0) 77) := hid (HB1.out.keep f2 (fun h => h))
  have HS2 : Hid (Blk w2 zs (arr9 fun _ => 0) 77) := hid B2
  have HF2 := hid (HF1.out.trans f2)
  have HZZ : Hid (w.heap.size ≤ za ∧ w.heap.size ≤ zs ∧ za ≠ zs) := hid (by have h1 := HZA.out; omega)
  clear hzs B2 f2 z1 z2 HB1 HF1 HZA
  go_wp2_with fail
  go_loopw [13, 14] (fun lf i wr => ∃ j : Nat, j ≤ N ∧ j ≤ 9 ∧ lf = .int .i64 ((sumN j (capL ls) : Nat) : Int) ∧ i = .int .i64 j ∧ Fr (fun _ => False) w2 wr) (fun _ i _ => N - (intOf i).toNat)
  case atStart => exact ⟨0, by omega, by omega, rfl, rfl, Fr.refl _ _⟩
  case round =>
    obtain ⟨j, hj, hj9, rfl, rfl, hf⟩ := hrel
    have HF := hid hf
    clear hf
    by_cases hjm : j < N ∧ j < 9
    · obtain ⟨hj1, hj2⟩ := hjm
      obtain ⟨_, b, off, u, rfl, _, hc, hv⟩ := (HLL.out.keep (HF0.out.trans (HF2.out.trans HF.out))).at j (by rw [← HNL.out]; exact hj1)
      obtain ⟨uo, uc, rfl, _⟩ := id hv
      have hm1 := (min40 (ls.getD j []).length).1
      have hm2 := (min40 (ls.getD j []).length).2
      have HC : Hid (((sumN j (capL ls) : Nat) : Int) + ((min (ls.getD j []).length 40 : Nat) : Int) = ((sumN (j + 1) (capL ls) : Nat) : Int)) := hid (by show _ = ((sumN j (capL ls) + capL ls j : Nat) : Int); unfold capL rowL; omega)
      have hbd := cap_bd ls j
      have hml : min (ls.getD j []).length 40 ≤ 40 := Nat.min_le_right _ _
      have HBD := hid (And.intro hbd hml)
      have HJ := hid (And.intro hj1 hj2)
      generalize min (ls.getD j []).length 40 = c at *
      generalize (ls.getD j []).length = ul at *
      generalize sumN j (capL ls) = sj at *
      clear hv hbd hml
      go_wp2_with fail
      go_roundw
      case rel => exact ⟨j + 1, by have := HJ.out; omega, by have := HJ.out; omega, by rw [← HC.out, w64d (by omega) (by have := HBD.out; omega)], by have := HJ.out; go_num, HF.out⟩
      case measure => have := HJ.out; simp [intOf]; omega
    · have HL0 : Hid (sumN j (capL ls) = sumN n (capL ls)) := hid (by
        obtain ⟨h1, h2, h3, h4, h5⟩ := HNN.out
        by_cases e : j = N
        · subst e
          rw [HNL.out] at h5 hj9 ⊢
          by_cases e9 : n ≤ ls.length
          · rw [show n = ls.length by omega]
          · rw [sumN_out (by omega : ls.length ≤ n)]
        · rw [show j = n by omega])
      have hjj : ¬ (j < N ∧ j < 9) := hjm
      have HFW := hid (HF2.out.trans HF.out)
      have HAW := hid (HA2.out.keep HF.out (fun h => h))
      have HSW := hid (HS2.out.keep HF.out (fun h => h))
      rw [HL0.out]
      obtain ⟨lv, hlv⟩ : ∃ lv : Int, lv = ((sumN n (capL ls) : Nat) : Int) := ⟨_, rfl⟩
      rw [← hlv]
      have HLV := hid hlv
      clear hlv
      by_cases hk1 : j < N
      · have hk2 : ¬ j < 9 := by omega
        have d2 : decide ((j : Int) < 9) = false := decide_eq_false (by omega)
        go_upto_region 8 with (fail)
        clear d2 hk1 hk2 hjj hjm hj hj9
        have HMW := hid (HMO.out.keep0 HFW.out)
        generalize wr = w3 at *
        have HTI0 := hid (TI.new (ls := ls) (n := n) HNN.out.2.1)
        have HMU : Hid (muT ls TT n 0 (fun _ => 0) ≤ TT * 10000 + 4000) := hid (by
          unfold muT
          have h1 := left_bd (ls := ls) HNN.out.2.1 (sumN n fun _ => 0)
          have h2 := distF_le (open_ ls fun _ => 0) n n 0
          have h3 := HNN.out.2.1
          omega)
        have HL00 : Hid (lv = ((sumN n (capL ls) - sumN n (fun _ => 0) : Nat) : Int)) := hid (by
          have : sumN n (fun _ => 0) = 0 := by have := HTI0.out.len; rw [tot_zero (fun _ _ => rfl)] at this; simpa using this.symm
          rw [this, HLV.out]; rfl)
        rw [HL00.out]
        generalize hMU : muT ls TT n 0 (fun _ => 0) = MU at HMU
        have HMU0 := hid hMU
        go_wp2_with fail
        go_loopg [12, 13, 15] MU (fun g u lf kk wr => ∃ (k : Nat) (at_ : Nat → Nat) (f : Nat → Int) (L : Nat → List Int) (l0 : Int) (O : List Int) (gp : Nat → Prop), g = muT ls TT n k at_ ∧ k + g ≤ MU ∧ kk = .int .i64 k ∧ lf = .int .i64 ((sumN n (capL ls) - sumN n at_ : Nat) : Int) ∧ TI ls n at_ f L l0 O ∧ MO wr p (isP n f L) (ky l0) gp ∧ GP w za zs fp gp ∧ Blk wr za (arr9 fun s => ((at_ s : Nat) : Int)) 77 ∧ Blk wr zs (arr9 fun s => sumS (rowL ls s) (at_ s)) 77 ∧ wr.ownsRow 0 3 1 u O.length (O.map (.int .i64)) ∧ Above w.heap.size (footOf u) ∧ (∀ b, b ∈ footOf u → ¬ gp b) ∧ Fr fp w wr)
        case atStart => exact ⟨0, fun _ => 0, fun _ => 0, fun _ => [], 0, [], fp, HMU0.out.symm, by omega, rfl, rfl, HTI0.out, HMW.out, ⟨fun b hb => .inl hb, fun hb => by have := HMO.out.live _ hb; have := HZZ.out; omega, fun hb => by have := HMO.out.live _ hb; have := HZZ.out; omega⟩, HAW.out, HSW.out, World.ownsRow_nil _ _ _ _, fun b hb => by simp [footOf, Value.ownBlock] at hb, fun b hb => by simp [footOf, Value.ownBlock] at hb, HFW.out.mono (fun _ _ h => h.elim)⟩
        case round =>
          obtain ⟨k, at_, f, L, l0, O, gp, hg, hkg, rfl, rfl, hTI, hMO, hGP, hBa, hBs, hR, hab, hng, hF⟩ := hrel
          clear HTI0 HMW HAW HSW HMU0 HFW HF2 HA2 HS2 HF HL00 HL0 HLV
          have HG := hid hg
          have HKG := hid hkg
          have HTI := hid hTI
          have HMw := hid hMO
          have HGP := hid hGP
          have HBA := hid hBa
          have HBS := hid hBs
          have HR := hid hR
          have HAB := hid hab
          have HNG := hid hng
          have HFr := hid hF
          have HF0w : Hid (Fr (fun _ => False) w0 wr) := hid (HF0.out.step hF (fun b hb hx => by have := HFP.out b hx; omega))
          obtain ⟨lfN, hlf⟩ : ∃ lfN, lfN = sumN n (capL ls) - sumN n at_ := ⟨_, rfl⟩
          rw [← hlf]
          have HLF : Hid (lfN + sumN n at_ = sumN n (capL ls)) := hid (by have := sumN_le hTI.cap; omega)
          have hul : lfN ≤ 360 := by have := cap_bd ls n; have := HNN.out; omega
          have HUL := hid hul
          clear hg hkg hTI hMO hGP hBa hBs hR hab hng hF hlf
          by_cases hl0 : 0 < lfN
          · have hn0 : ¬ (n : Int) = 0 := by have := HNN.out; omega
            have HN0 := hid hn0
            obtain ⟨i0, hi0⟩ : ∃ i0, i0 = k % n := ⟨_, rfl⟩
            have HI0 : Hid (i0 < n ∧ i0 = k % n) := hid ⟨by rw [hi0]; exact Nat.mod_lt _ (by have := HNN.out; omega), hi0⟩
            have ht : Int.tmod (k : Int) (n : Int) = (i0 : Int) := by rw [hi0]; rfl
            clear hi0
            have HLP := hid hl0
            clear hul
            go_upto_region 12 with (fail)
            clear ht hn0
            go_upto_if 48 with (fail)
            go_cut [16] from 48 to 54 (fun iv wc => ∃ i : Nat, iv = .int .i64 i ∧ i < n ∧ (¬ k < TT → i = k % n) ∧ wr = wc)
            case first =>
              by_cases hkT : k < TT
              · obtain ⟨b, off, hbo, _, hc0⟩ := HTC.out k (by rw [← HTT.out]; exact hkT)
                subst hbo
                have hc := cell_fr HF0w.out hc0
                clear hc0
                have hw := HT64.out (ts.getD k 0) (by rw [List.getD_eq_getElem?_getD, List.getElem?_eq_getElem (by rw [← HTT.out]; exact hkT)]; exact List.getElem_mem _)
                generalize ts.getD k 0 = tv at *
                have hbr := bring_bd tv n (by have := HNN.out; omega)
                have HBR := hid (bring_any tv n wr hw.1 hw.2 (by have := HNN.out; omega) (by have := HNN.out; omega))
                obtain ⟨bi, hbi⟩ : ∃ bi : Nat, bring tv n = bi := ⟨(bring tv n).toNat, by omega⟩
                rw [hbi] at HBR hbr
                have HBI : Hid (bi < n) := hid (by omega)
                have HKT := hid hkT
                clear hbi hbr hw
                go_wp2_with fail
                with_reducible refine HBR.out.mono ?_
                rintro e w4 ⟨rfl, rfl⟩
                go_wp2_with fail
                go_meet
                exact ⟨bi, rfl, HBI.out, fun h => absurd HKT.out h, rfl⟩
              · go_wp2_with fail
                go_meet
                exact ⟨i0, rfl, HI0.out.1, fun _ => HI0.out.2, rfl⟩
            case rest =>
              obtain ⟨i, rfl, hin, hiT, hwc⟩ := hcut
              subst hwc
              have HIN := hid hin
              have HIT := hid hiT
              have hiN : i < N := by
                have h1 := HNN.out
                by_cases e : N = 0
                · exfalso
                  have h2 := sumN_out (ls := ls) (m := n) (by rw [← HNL.out, e]; exact Nat.zero_le _)
                  rw [← HNL.out, e] at h2
                  have h3 : sumN 0 (capL ls) = 0 := rfl
                  have h4 := HLF.out
                  have h5 := HLP.out
                  omega
                · omega
              have hi9 : i < 9 := by have := HNN.out; omega
              obtain ⟨h64, b, off, u, hao, hbw, hcu, hvu⟩ := HLL.out.at i (by rw [← HNL.out]; exact hiN)
              subst hao
              obtain ⟨uo, uc, rfl, hul1, hul2, hul3, hul4⟩ := id hvu
              have H64 := hid h64
              have HU4 := hid hul4
              obtain ⟨av, hav⟩ : ∃ av, av = at_ i := ⟨_, rfl⟩
              obtain ⟨ul, hul⟩ : ∃ ul, ul = (ls.getD i []).length := ⟨_, rfl⟩
              rw [← hul] at hcu hul1
              have HUL2 : Hid (capL ls i = min ul 40) := hid (by rw [hul]; rfl)
              have HULL := hid hul
              have HAV := hid hav
              have HI9 := hid hi9
              have HZ0 : Hid (w0.heap.size ≤ zs) := hid (by have h1 := HF0.out.size; have h2 := HZZ.out; omega)
              have PS : Hid (∀ W, Fr (fun x => x = zs) wr W → W.cell? ⟨za, i, none⟩ = some (.int .i64 (av : Int)) ∧ W.cell? ⟨b, off + i, none⟩ = some (.slice uo ul uc)) := hid (fun W f => ⟨by
                rw [HAV.out]
                exact (HBA.out.keep f HZZ.out.2.2).cell i (arr9_at (fun s => ((at_ s : Nat) : Int)) HI9.out), cell_fr (HF0w.out.into f HZ0.out) hcu⟩)
              have hiNi : (i : Int) < (N : Int) := by omega
              have hi9i : (i : Int) < 9 := by omega
              have e1 : decide ((N : Int) ≤ (i : Int)) = false := decide_eq_false (by omega)
              have e1n : decide (N ≤ i) = false := decide_eq_false (by omega)
              have HIX := hid (And.intro hiNi hi9i)
              have hul99 : (ul : Int) ≤ 9223372036854775807 := by unfold maxLen at hul2; omega
              clear hin hiT hl0 hiN hi9 hbw hcu hvu hul hav h64 hul1 hul2 hul3 hul4
              have f0 : Fr (fun _ => False) wr wr.drew := (Fr.refl _ _).drew
              have f0z : Fr (fun x => x = zs) wr wr.drew := (Fr.refl _ _).drew
              by_cases hc1 : av < ul
              · have e2 : decide ((ul : Int) ≤ (av : Int)) = false := decide_eq_false (by omega)
                have e2n : decide (ul ≤ av) = false := decide_eq_false (by omega)
                by_cases hc2 : av < 40
                · have e3 : decide ((40 : Int) ≤ (av : Int)) = false := decide_eq_false (by omega)
                  have e3n : decide (40 ≤ av) = false := decide_eq_false (by omega)
                  have HC := hid (And.intro hc1 hc2)
                  go_wp2_with fail
                  refine wp_region_held_drew (S := fun W => W.cell? ⟨za, i, none⟩ = some (.int .i64 (av : Int)) ∧ W.cell? ⟨b, off + i, none⟩ = some (.slice uo ul uc)) (by kernel_rfl) (PS.out _ f0z) (fun hHeld => ?_)
                  refine wpAnyH_take (i := 0) (v := ?_) rfl (by kernel_rfl) (by kernel_rfl) (by kernel_rfl) (fun _ _ _ h => h) (Or.inl ⟨by rfl, ?_⟩) hHeld ?_
                  rotate_left 1
                  · (intro w hSw; (try dsimp only at hSw); go_simp <;> with_reducible rfl)
                  try simp only [Act.put, List.setIfInBounds_toArray, List.set_cons_zero, List.set_cons_succ, List.getElem_toArray, List.getElem_cons_succ, List.getElem_cons_zero]
                  refine wpAnyH_take (i := 1) (v := ?_) rfl (by kernel_rfl) (by kernel_rfl) (by kernel_rfl) (fun _ _ _ h => h) (Or.inl ⟨by rfl, ?_⟩) hHeld ?_
                  rotate_left 1
                  · (intro w hSw; (try dsimp only at hSw); go_simp <;> with_reducible rfl)
                  try simp only [Act.put, List.setIfInBounds_toArray, List.set_cons_zero, List.set_cons_succ, List.getElem_toArray, List.getElem_cons_succ, List.getElem_cons_zero]
                  refine wpAnyH_take (i := 2) (v := ?_) rfl (by kernel_rfl) (by kernel_rfl) (by kernel_rfl) (fun _ _ _ h => h) (Or.inl ⟨by rfl, ?_⟩) hHeld ?_
                  rotate_left 1
                  · (intro w hSw; (try dsimp only at hSw); go_simp <;> with_reducible rfl)
                  try simp only [Act.put, List.setIfInBounds_toArray, List.set_cons_zero, List.set_cons_succ, List.getElem_toArray, List.getElem_cons_succ, List.getElem_cons_zero]
                  refine wpAnyH_take (i := 3) (v := ?_) rfl (by kernel_rfl) (by kernel_rfl) (by kernel_rfl) (fun _ _ _ h => h) (Or.inl ⟨by rfl, ?_⟩) hHeld ?_
                  rotate_left 1
                  · (intro w hSw; (try dsimp only at hSw); go_simp <;> with_reducible rfl)
                  try simp only [Act.put, List.setIfInBounds_toArray, List.set_cons_zero, List.set_cons_succ, List.getElem_toArray, List.getElem_cons_succ, List.getElem_cons_zero]
                  refine wpAnyH_take (i := 4) (v := ?_) rfl (by kernel_rfl) (by kernel_rfl) (by kernel_rfl) (fun _ _ _ h => h) (Or.inl ⟨by rfl, ?_⟩) hHeld ?_
                  rotate_left 1
                  · (intro w hSw; (try dsimp only at hSw); go_simp <;> with_reducible rfl)
                  try simp only [Act.put, List.setIfInBounds_toArray, List.set_cons_zero, List.set_cons_succ, List.getElem_toArray, List.getElem_cons_succ, List.getElem_cons_zero]
                  refine wpAnyH_take (i := 5) (v := ?_) rfl (by kernel_rfl) (by kernel_rfl) (by kernel_rfl) (fun _ _ _ h => h) (Or.inl ⟨by rfl, ?_⟩) hHeld ?_
                  rotate_left 1
                  · (intro w hSw; (try dsimp only at hSw); go_simp <;> with_reducible rfl)
                  try simp only [Act.put, List.setIfInBounds_toArray, List.set_cons_zero, List.set_cons_succ, List.getElem_toArray, List.getElem_cons_succ, List.getElem_cons_zero]
                  refine wpAnyH_take (i := 6) (v := ?_) rfl (by kernel_rfl) (by kernel_rfl) (by kernel_rfl) (fun _ _ _ h => h) (Or.inl ⟨by rfl, ?_⟩) hHeld ?_
                  rotate_left 1
                  · (intro w hSw; (try dsimp only at hSw); go_simp <;> with_reducible rfl)
                  try simp only [Act.put, List.setIfInBounds_toArray, List.set_cons_zero, List.set_cons_succ, List.getElem_toArray, List.getElem_cons_succ, List.getElem_cons_zero]
                  refine wpAnyH_take (i := 7) (v := ?_) rfl (by kernel_rfl) (by kernel_rfl) (by kernel_rfl) (fun _ _ _ h => h) (Or.inl ⟨by rfl, ?_⟩) hHeld ?_
                  rotate_left 1
                  · (intro w hSw; (try dsimp only at hSw); go_simp <;> with_reducible rfl)
                  try simp only [Act.put, List.setIfInBounds_toArray, List.set_cons_zero, List.set_cons_succ, List.getElem_toArray, List.getElem_cons_succ, List.getElem_cons_zero]
                  refine wpAnyH_take (i := 8) (v := ?_) rfl (by kernel_rfl) (by kernel_rfl) (by kernel_rfl) (fun _ _ _ h => h) (Or.inl ⟨by rfl, ?_⟩) hHeld ?_
                  rotate_left 1
                  · (intro w hSw; (try dsimp only at hSw); go_simp <;> with_reducible rfl)
                  try simp only [Act.put, List.setIfInBounds_toArray, List.set_cons_zero, List.set_cons_succ, List.getElem_toArray, List.getElem_cons_succ, List.getElem_cons_zero]
                  refine wpAnyH_take (i := 9) (v := ?_) rfl (by kernel_rfl) (by kernel_rfl) (by kernel_rfl) (fun _ _ _ h => h) (Or.inl ⟨by rfl, ?_⟩) hHeld ?_
                  rotate_left 1
                  · (intro w hSw; (try dsimp only at hSw); go_simp <;> with_reducible rfl)
                  try simp only [Act.put, List.setIfInBounds_toArray, List.set_cons_zero, List.set_cons_succ, List.getElem_toArray, List.getElem_cons_succ, List.getElem_cons_zero]
                  refine wpAnyH_take (i := 10) (v := ?_) rfl (by kernel_rfl) (by kernel_rfl) (by kernel_rfl) (fun _ _ _ h => h) (Or.inl ⟨by rfl, ?_⟩) hHeld ?_
                  rotate_left 1
                  · (intro w hSw; (try dsimp only at hSw); go_simp <;> with_reducible rfl)
                  try simp only [Act.put, List.setIfInBounds_toArray, List.set_cons_zero, List.set_cons_succ, List.getElem_toArray, List.getElem_cons_succ, List.getElem_cons_zero]
                  refine wpAnyH_take (i := 11) (v := ?_) rfl (by kernel_rfl) (by kernel_rfl) (by kernel_rfl) (fun _ _ _ h => h) (Or.inl ⟨by rfl, ?_⟩) hHeld ?_
                  rotate_left 1
                  · (intro w hSw; (try dsimp only at hSw); go_simp <;> with_reducible rfl)
                  try simp only [Act.put, List.setIfInBounds_toArray, List.set_cons_zero, List.set_cons_succ, List.getElem_toArray, List.getElem_cons_succ, List.getElem_cons_zero]
                  refine wpAnyH_take (i := 12) (v := ?_) rfl (by kernel_rfl) (by kernel_rfl) (by kernel_rfl) (fun _ _ _ h => h) (Or.inl ⟨by rfl, ?_⟩) hHeld ?_
                  rotate_left 1
                  · (intro w hSw; (try dsimp only at hSw); go_simp <;> with_reducible rfl)
                  try simp only [Act.put, List.setIfInBounds_toArray, List.set_cons_zero, List.set_cons_succ, List.getElem_toArray, List.getElem_cons_succ, List.getElem_cons_zero]
                  refine wpAnyH_take (i := 13) (v := ?_) rfl (by kernel_rfl) (by kernel_rfl) (by kernel_rfl) (fun _ _ _ h => h) (Or.inl ⟨by rfl, ?_⟩) hHeld ?_
                  rotate_left 1
                  · (intro w hSw; (try dsimp only at hSw); go_simp <;> with_reducible rfl)
                  try simp only [Act.put, List.setIfInBounds_toArray, List.set_cons_zero, List.set_cons_succ, List.getElem_toArray, List.getElem_cons_succ, List.getElem_cons_zero]
                  refine wpAnyH_take (i := 14) (v := ?_) rfl (by kernel_rfl) (by kernel_rfl) (by kernel_rfl) (fun _ _ _ h => h) (Or.inl ⟨by rfl, ?_⟩) hHeld ?_
                  rotate_left 1
                  · (intro w hSw; (try dsimp only at hSw); go_simp <;> with_reducible rfl)
                  try simp only [Act.put, List.setIfInBounds_toArray, List.set_cons_zero, List.set_cons_succ, List.getElem_toArray, List.getElem_cons_succ, List.getElem_cons_zero]
                  refine wpAnyH_take (i := 15) (v := ?_) rfl (by kernel_rfl) (by kernel_rfl) (by kernel_rfl) (fun _ _ _ h => h) (Or.inl ⟨by rfl, ?_⟩) hHeld ?_
                  rotate_left 1
                  · (intro w hSw; (try dsimp only at hSw); go_simp <;> with_reducible rfl)
                  try simp only [Act.put, List.setIfInBounds_toArray, List.set_cons_zero, List.set_cons_succ, List.getElem_toArray, List.getElem_cons_succ, List.getElem_cons_zero]
                  refine wpAnyH_take (i := 16) (v := ?_) rfl (by kernel_rfl) (by kernel_rfl) (by kernel_rfl) (fun _ _ _ h => h) (Or.inl ⟨by rfl, ?_⟩) hHeld ?_
                  rotate_left 1
                  · (intro w hSw; (try dsimp only at hSw); go_simp <;> with_reducible rfl)
                  try simp only [Act.put, List.setIfInBounds_toArray, List.set_cons_zero, List.set_cons_succ, List.getElem_toArray, List.getElem_cons_succ, List.getElem_cons_zero]
                  refine wpAnyH_take (i := 17) (v := ?_) rfl (by kernel_rfl) (by kernel_rfl) (by kernel_rfl) (fun _ _ _ h => h) (Or.inl ⟨by rfl, ?_⟩) hHeld ?_
                  rotate_left 1
                  · (intro w hSw; (try dsimp only at hSw); go_simp <;> with_reducible rfl)
                  try simp only [Act.put, List.setIfInBounds_toArray, List.set_cons_zero, List.set_cons_succ, List.getElem_toArray, List.getElem_cons_succ, List.getElem_cons_zero]
                  refine wpAnyH_take (i := 18) (v := ?_) rfl (by kernel_rfl) (by kernel_rfl) (by kernel_rfl) (fun _ _ _ h => h) (Or.inl ⟨by rfl, ?_⟩) hHeld ?_
                  rotate_left 1
                  · (intro w hSw; (try dsimp only at hSw); go_simp <;> with_reducible rfl)
                  try simp only [Act.put, List.setIfInBounds_toArray, List.set_cons_zero, List.set_cons_succ, List.getElem_toArray, List.getElem_cons_succ, List.getElem_cons_zero]
                  refine wpAnyH_take (i := 19) (v := ?_) rfl (by kernel_rfl) (by kernel_rfl) (by kernel_rfl) (fun _ _ _ h => h) (Or.inl ⟨by rfl, ?_⟩) hHeld ?_
                  rotate_left 1
                  · (intro w hSw; (try dsimp only at hSw); go_simp <;> with_reducible rfl)
                  try simp only [Act.put, List.setIfInBounds_toArray, List.set_cons_zero, List.set_cons_succ, List.getElem_toArray, List.getElem_cons_succ, List.getElem_cons_zero]
                  refine wpAnyH_take (i := 20) (v := ?_) rfl (by kernel_rfl) (by kernel_rfl) (by kernel_rfl) (fun _ _ _ h => h) (Or.inl ⟨by rfl, ?_⟩) hHeld ?_
                  rotate_left 1
                  · (intro w hSw; (try dsimp only at hSw); go_simp <;> with_reducible rfl)
                  try simp only [Act.put, List.setIfInBounds_toArray, List.set_cons_zero, List.set_cons_succ, List.getElem_toArray, List.getElem_cons_succ, List.getElem_cons_zero]
                  refine wpAnyH_done (by kernel_rfl) ?_ _
                  clear hHeld
                  go_upto_region 15 with (fail)
                  have HMq := hid (HMw.out.keep0 f0)
                  have HBAq := hid (HBA.out.keep f0 (fun h => h))
                  have HBSq := hid (HBS.out.keep f0 (fun h => h))
                  have HRq := hid (row_keep HR.out f0 (fun _ _ h => h))
                  have HFq := hid (HFr.out.trans (f0.mono (fun _ _ h => h.elim)))
                  have HF0q := hid (HF0w.out.trans f0)
                  have PSq : Hid (∀ W, Fr (fun x => x = zs) wr.drew W → W.cell? ⟨za, i, none⟩ = some (.int .i64 (av : Int)) ∧ W.cell? ⟨b, off + i, none⟩ = some (.slice uo ul uc)) := hid (fun W f => PS.out W (f0z.trans f))
                  generalize wr.drew = wq at *
                  clear PS f0 f0z e1 e1n e2 e2n e3 e3n HMw HBA HBS HR HFr hc1 hc2
                  obtain ⟨eb, eo, huo, heb, hce⟩ := HU4.out av (by rw [← HULL.out]; exact HC.out.1)
                  subst huo
                  have hev := H64.out ((ls.getD i []).getD av 0) (getD_mem (by rw [← HULL.out]; exact HC.out.1))
                  have HSN : Hid (sumS (rowL ls i) (av + 1) = sumS (rowL ls i) av + 1 + bring ((ls.getD i []).getD av 0) 20) := hid rfl
                  generalize (ls.getD i []).getD av 0 = ev at *
                  have PE : Hid (∀ W, Fr (fun x => x = zs) wq W → W.cell? ⟨za, i, none⟩ = some (.int .i64 (av : Int)) ∧ W.cell? ⟨b, off + i, none⟩ = some (.slice (some ⟨eb, eo, none⟩) ul uc) ∧ W.cell? ⟨eb, eo + av, none⟩ = some (.int .i64 ev)) := hid (fun W f => ⟨(PSq.out W f).1, (PSq.out W f).2, cell_fr (HF0q.out.into f HZ0.out) hce⟩)
                  have HBR := hid (fun W => bring_any ev 20 W hev.1 hev.2 (by decide) (by decide))
                  have hbr := bring_bd ev 20 (by decide)
                  generalize bring ev 20 = br at *
                  have hsx := sumS_bd (rowL ls i) av
                  have HSX := hid hsx
                  have czs : wq.cell? ⟨zs, i, none⟩ = some (.int .i64 (sumS (rowL ls i) av)) := by
                    have h := HBSq.out.cell i (arr9_at (fun s => sumS (rowL ls s) (at_ s)) HI9.out)
                    rw [HAV.out]; exact h
                  have yzs := HBSq.out.free i
                  obtain ⟨sx, hsxe⟩ : ∃ sx, sx = sumS (rowL ls i) av := ⟨_, rfl⟩
                  rw [← hsxe] at czs hsx HSN HSX
                  have HSXE := hid hsxe
                  have hc40 : av < 40 := HC.out.2
                  obtain ⟨sx1, hsx1⟩ : ∃ sx1, sx1 = sx + 1 := ⟨_, rfl⟩
                  obtain ⟨sn, hsn⟩ : ∃ sn, sn = sx1 + br := ⟨_, rfl⟩
                  have hw1 : IntKind.i64.wrap (sx + 1) = sx1 := by rw [hsx1]; exact IntWalk.i64_in _ (by omega)
                  have hw2 : IntKind.i64.wrap (sx1 + br) = sn := by rw [hsn]; exact IntWalk.i64_in _ (by omega)
                  have HSNE : Hid (sumS (rowL ls i) (av + 1) = sn ∧ 0 ≤ sn ∧ sn ≤ 820) := hid ⟨by rw [HSN.out, hsn, hsx1], by omega, by omega⟩
                  have hav9 : (av : Int) < (ul : Int) := by have := HC.out.1; omega
                  have hiNi2 := HIX.out.1
                  have hi9i2 := HIX.out.2
                  clear hsxe hsx1 hsn hbr hsx hev hce heb PSq hc40 HSN
                  refine wp_region_held_drew (S := fun W => W.cell? ⟨za, i, none⟩ = some (.int .i64 (av : Int)) ∧ W.cell? ⟨b, off + i, none⟩ = some (.slice (some ⟨eb, eo, none⟩) ul uc) ∧ W.cell? ⟨eb, eo + av, none⟩ = some (.int .i64 ev)) (by kernel_rfl) (PE.out _ ((Fr.refl _ _).drew)) (fun hHeld => ?_)
                  refine wpAnyH_take (i := 0) (v := ?_) rfl (by kernel_rfl) (by kernel_rfl) (by kernel_rfl) (fun _ _ _ h => h) (Or.inl ⟨by rfl, ?_⟩) hHeld ?_
                  rotate_left 1
                  · (intro w hSw; (try dsimp only at hSw); go_simp <;> with_reducible rfl)
                  try simp only [Act.put, List.setIfInBounds_toArray, List.set_cons_zero, List.set_cons_succ, List.getElem_toArray, List.getElem_cons_succ, List.getElem_cons_zero]
                  refine wpAnyH_take (i := 1) (v := ?_) rfl (by kernel_rfl) (by kernel_rfl) (by kernel_rfl) (fun _ _ _ h => h) (Or.inl ⟨by rfl, ?_⟩) hHeld ?_
                  rotate_left 1
                  · (intro w hSw; (try dsimp only at hSw); go_simp <;> with_reducible rfl)
                  try simp only [Act.put, List.setIfInBounds_toArray, List.set_cons_zero, List.set_cons_succ, List.getElem_toArray, List.getElem_cons_succ, List.getElem_cons_zero]
                  refine wpAnyH_take (i := 2) (v := ?_) rfl (by kernel_rfl) (by kernel_rfl) (by kernel_rfl) (fun _ _ _ h => h) (Or.inl ⟨by rfl, ?_⟩) hHeld ?_
                  rotate_left 1
                  · (intro w hSw; (try dsimp only at hSw); go_simp <;> with_reducible rfl)
                  try simp only [Act.put, List.setIfInBounds_toArray, List.set_cons_zero, List.set_cons_succ, List.getElem_toArray, List.getElem_cons_succ, List.getElem_cons_zero]
                  refine wpAnyH_take (i := 5) (v := ?_) rfl (by kernel_rfl) (by kernel_rfl) (by kernel_rfl) (fun _ _ _ h => h) (Or.inl ⟨by rfl, ?_⟩) hHeld ?_
                  rotate_left 1
                  · (intro w hSw; (try dsimp only at hSw); go_simp <;> with_reducible rfl)
                  try simp only [Act.put, List.setIfInBounds_toArray, List.set_cons_zero, List.set_cons_succ, List.getElem_toArray, List.getElem_cons_succ, List.getElem_cons_zero]
                  refine wpAnyH_take (i := 6) (v := ?_) rfl (by kernel_rfl) (by kernel_rfl) (by kernel_rfl) (fun _ _ _ h => h) (Or.inl ⟨by rfl, ?_⟩) hHeld ?_
                  rotate_left 1
                  · (intro w hSw; (try dsimp only at hSw); go_simp <;> with_reducible rfl)
                  try simp only [Act.put, List.setIfInBounds_toArray, List.set_cons_zero, List.set_cons_succ, List.getElem_toArray, List.getElem_cons_succ, List.getElem_cons_zero]
                  refine wpAnyH_take (i := 7) (v := ?_) rfl (by kernel_rfl) (by kernel_rfl) (by kernel_rfl) (fun _ _ _ h => h) (Or.inl ⟨by rfl, ?_⟩) hHeld ?_
                  rotate_left 1
                  · (intro w hSw; (try dsimp only at hSw); go_simp <;> with_reducible rfl)
                  try simp only [Act.put, List.setIfInBounds_toArray, List.set_cons_zero, List.set_cons_succ, List.getElem_toArray, List.getElem_cons_succ, List.getElem_cons_zero]
                  refine wpAnyH_take (i := 8) (v := ?_) rfl (by kernel_rfl) (by kernel_rfl) (by kernel_rfl) (fun _ _ _ h => h) (Or.inl ⟨by rfl, ?_⟩) hHeld ?_
                  rotate_left 1
                  · (intro w hSw; (try dsimp only at hSw); go_simp <;> with_reducible rfl)
                  try simp only [Act.put, List.setIfInBounds_toArray, List.set_cons_zero, List.set_cons_succ, List.getElem_toArray, List.getElem_cons_succ, List.getElem_cons_zero]
                  refine wpAnyH_take (i := 9) (v := ?_) rfl (by kernel_rfl) (by kernel_rfl) (by kernel_rfl) (fun _ _ _ h => h) (Or.inl ⟨by rfl, ?_⟩) hHeld ?_
                  rotate_left 1
                  · (intro w hSw; (try dsimp only at hSw); go_simp <;> with_reducible rfl)
                  try simp only [Act.put, List.setIfInBounds_toArray, List.set_cons_zero, List.set_cons_succ, List.getElem_toArray, List.getElem_cons_succ, List.getElem_cons_zero]
                  refine wpAnyH_take (i := 10) (v := ?_) rfl (by kernel_rfl) (by kernel_rfl) (by kernel_rfl) (fun _ _ _ h => h) (Or.inl ⟨by rfl, ?_⟩) hHeld ?_
                  rotate_left 1
                  · (intro w hSw; (try dsimp only at hSw); go_simp <;> with_reducible rfl)
                  try simp only [Act.put, List.setIfInBounds_toArray, List.set_cons_zero, List.set_cons_succ, List.getElem_toArray, List.getElem_cons_succ, List.getElem_cons_zero]
                  refine wpAnyH_take (i := 11) (v := ?_) rfl (by kernel_rfl) (by kernel_rfl) (by kernel_rfl) (fun _ _ _ h => h) (Or.inl ⟨by rfl, ?_⟩) hHeld ?_
                  rotate_left 1
                  · (intro w hSw; (try dsimp only at hSw); go_simp <;> with_reducible rfl)
                  try simp only [Act.put, List.setIfInBounds_toArray, List.set_cons_zero, List.set_cons_succ, List.getElem_toArray, List.getElem_cons_succ, List.getElem_cons_zero]
                  refine wpAnyH_take (i := 12) (v := ?_) rfl (by kernel_rfl) (by kernel_rfl) (by kernel_rfl) (fun _ _ _ h => h) (Or.inl ⟨by rfl, ?_⟩) hHeld ?_
                  rotate_left 1
                  · (intro w hSw; (try dsimp only at hSw); go_simp <;> with_reducible rfl)
                  try simp only [Act.put, List.setIfInBounds_toArray, List.set_cons_zero, List.set_cons_succ, List.getElem_toArray, List.getElem_cons_succ, List.getElem_cons_zero]
                  refine wpAnyH_take (i := 13) (v := ?_) rfl (by kernel_rfl) (by kernel_rfl) (by kernel_rfl) (fun _ _ _ h => h) (Or.inl ⟨by rfl, ?_⟩) hHeld ?_
                  rotate_left 1
                  · (intro w hSw; (try dsimp only at hSw); go_simp <;> with_reducible rfl)
                  try simp only [Act.put, List.setIfInBounds_toArray, List.set_cons_zero, List.set_cons_succ, List.getElem_toArray, List.getElem_cons_succ, List.getElem_cons_zero]
                  apply forkP
                  · intro key
                    refine wpAnyH_ready (rs := [3, 14]) (by kernel_rfl) (by simp) ?_
                    refine AllReadyH.cons rfl (fun K hK => ?_) (AllReadyH.cons rfl (fun K hK => ?_) (AllReadyH.nil))
                    skip
                    · skip
                      have c1 : wq.drew.cell? ⟨zs, i, none⟩ = some (.int .i64 sx) := czs
                      go_simp
                      clear c1
                      refine hK.out _ _ (PE.out _ ((Fr.refl _ _).drew)) (fun hHeld => ?_)
                      clear hK K
                      try simp only [Act.put, List.setIfInBounds_toArray, List.set_cons_zero, List.set_cons_succ, List.getElem_toArray, List.getElem_cons_succ, List.getElem_cons_zero]
                      refine wpAnyH_take (i := 4) (v := ?_) rfl (by kernel_rfl) (by kernel_rfl) (by kernel_rfl) (fun _ _ _ h => h) (Or.inl ⟨by rfl, ?_⟩) hHeld ?_
                      rotate_left 1
                      · (intro w hSw; (try dsimp only at hSw); go_simp <;> with_reducible rfl)
                      try simp only [Act.put, List.setIfInBounds_toArray, List.set_cons_zero, List.set_cons_succ, List.getElem_toArray, List.getElem_cons_succ, List.getElem_cons_zero]
                      refine wpAnyH_ready (rs := [14]) (by kernel_rfl) (by simp) ?_
                      refine AllReadyH.cons rfl (fun K hK => ?_) (AllReadyH.nil)
                      skip
                      go_simp
                      go_at_call 26
                      refine (HBR.out _).mono ?_
                      rintro e w5 ⟨rfl, rfl⟩
                      refine hK.out _ _ (PE.out _ ((Fr.refl _ _).drew)) (fun hHeld => ?_)
                      clear hK K
                      try simp only [Act.put, List.setIfInBounds_toArray, List.set_cons_zero, List.set_cons_succ, List.getElem_toArray, List.getElem_cons_succ, List.getElem_cons_zero]
                      refine wpAnyH_relist (l' := #[true, true, true, true, true, true, true, true, true, true, true, true, true, true, true, false, false, false]) (by kernel_rfl) ?_
                      exact key trivial
                    · skip
                      go_simp
                      go_at_call 26
                      refine (HBR.out _).mono ?_
                      rintro e w5 ⟨rfl, rfl⟩
                      refine hK.out _ _ (PE.out _ ((Fr.refl _ _).drew)) (fun hHeld => ?_)
                      clear hK K
                      try simp only [Act.put, List.setIfInBounds_toArray, List.set_cons_zero, List.set_cons_succ, List.getElem_toArray, List.getElem_cons_succ, List.getElem_cons_zero]
                      refine wpAnyH_ready (rs := [3]) (by kernel_rfl) (by simp) ?_
                      refine AllReadyH.cons rfl (fun K hK => ?_) (AllReadyH.nil)
                      skip
                      have c1 : wq.drew.cell? ⟨zs, i, none⟩ = some (.int .i64 sx) := czs
                      go_simp
                      clear c1
                      refine hK.out _ _ (PE.out _ ((Fr.refl _ _).drew)) (fun hHeld => ?_)
                      clear hK K
                      try simp only [Act.put, List.setIfInBounds_toArray, List.set_cons_zero, List.set_cons_succ, List.getElem_toArray, List.getElem_cons_succ, List.getElem_cons_zero]
                      refine wpAnyH_take (i := 4) (v := ?_) rfl (by kernel_rfl) (by kernel_rfl) (by kernel_rfl) (fun _ _ _ h => h) (Or.inl ⟨by rfl, ?_⟩) hHeld ?_
                      rotate_left 1
                      · (intro w hSw; (try dsimp only at hSw); go_simp <;> with_reducible rfl)
                      try simp only [Act.put, List.setIfInBounds_toArray, List.set_cons_zero, List.set_cons_succ, List.getElem_toArray, List.getElem_cons_succ, List.getElem_cons_zero]
                      refine wpAnyH_relist (l' := #[true, true, true, true, true, true, true, true, true, true, true, true, true, true, true, false, false, false]) (by kernel_rfl) ?_
                      exact key trivial
                  intro _
                  refine wpAnyH_take (i := 15) (v := ?_) rfl (by kernel_rfl) (by kernel_rfl) (by kernel_rfl) (fun _ _ _ h => h) (Or.inl ⟨by rfl, ?_⟩) hHeld ?_
                  rotate_left 1
                  · (intro w hSw; (try dsimp only at hSw); go_simp <;> with_reducible rfl)
                  try simp only [Act.put, List.setIfInBounds_toArray, List.set_cons_zero, List.set_cons_succ, List.getElem_toArray, List.getElem_cons_succ, List.getElem_cons_zero]
                  refine wpAnyH_take (i := 16) (v := ?_) rfl (by kernel_rfl) (by kernel_rfl) (by kernel_rfl) (fun _ _ _ h => h) (Or.inl ⟨by rfl, ?_⟩) hHeld ?_
                  rotate_left 1
                  · (intro w hSw; (try dsimp only at hSw); go_simp <;> with_reducible rfl)
                  try simp only [Act.put, List.setIfInBounds_toArray, List.set_cons_zero, List.set_cons_succ, List.getElem_toArray, List.getElem_cons_succ, List.getElem_cons_zero]
                  refine wpAnyH_ready (rs := [17]) (by kernel_rfl) (by simp) ?_
                  refine AllReadyH.cons rfl (fun K hK => ?_) (AllReadyH.nil)
                  skip
                  clear hHeld
                  have c1 : wq.drew.cell? ⟨zs, i, none⟩ = some (.int .i64 sx) := czs
                  have y1 : wq.drew.frozen? ⟨zs, i, none⟩ = false := yzs
                  go_simp
                  refine hK.out _ _ (PE.out _ ((Fr.refl _ _).drew.trans ((Fr.refl _ wq.drew).set1 i _))) (fun hHeld => ?_)
                  clear hK K c1 y1
                  try simp only [Act.put, List.setIfInBounds_toArray, List.set_cons_zero, List.set_cons_succ, List.getElem_toArray, List.getElem_cons_succ, List.getElem_cons_zero]
                  refine wpAnyH_done (by kernel_rfl) ?_ _
                  clear hHeld
                  have f5 : Fr (fun x => x = zs) wq (wq.setCell ⟨zs, i, none⟩ (.int .i64 sn)).drew := ((Fr.refl _ wq).set1 i _).drew
                  have HBS5 : Hid (Blk (wq.setCell ⟨zs, i, none⟩ (.int .i64 sn)).drew zs (arr9 (set1 (fun s => sumS (rowL ls s) (at_ s)) i sn)) 77) := hid ((HBSq.out.set' i _ (arr9_set _ HI9.out sn)).drew)
                  have HBA5 := hid (HBAq.out.keep f5 HZZ.out.2.2)
                  have HM5 := hid (HMq.out.keep f5 (fun b hb e => HGP.out.s (e ▸ hb)))
                  have HR5 := hid (row_keep HRq.out f5 (fun b hb e => by
                    obtain ⟨cs, k⟩ := row_type HRq.out hb
                    exact absurd ((e ▸ k : Blk wq zs cs 3).type HBSq.out) (by decide)))
                  have HF5 : Hid (Fr fp w (wq.setCell ⟨zs, i, none⟩ (.int .i64 sn)).drew) := hid (HFq.out.step f5 (fun b hb e => by have h1 := HZZ.out; omega))
                  have HF05 := hid (HF0q.out.into f5 HZ0.out)
                  generalize (wq.setCell ⟨zs, i, none⟩ (.int .i64 sn)).drew = w5 at *
                  clear f5 czs yzs PE HBR hw1 hw2 HBSq HBAq HMq HRq HFq HF0q
                  have ca : w5.cell? ⟨za, i, none⟩ = some (.int .i64 (av : Int)) := by
                    have h := HBA5.out.cell i (arr9_at (fun s => ((at_ s : Nat) : Int)) HI9.out)
                    rw [HAV.out]; exact h
                  have ya := HBA5.out.free i
                  have hi9n := HI9.out
                  go_upto_region 17 with (fail)
                  have f6 : Fr (fun x => x = za) w5 (w5.setCell ⟨za, i, none⟩ (.int .i64 ((av : Int) + 1))) := (Fr.refl _ w5).set1 i _
                  have HBA6 : Hid (Blk (w5.setCell ⟨za, i, none⟩ (.int .i64 ((av : Int) + 1))) za (arr9 (set1 (fun s => ((at_ s : Nat) : Int)) i ((av : Int) + 1))) 77) := hid (HBA5.out.set' i _ (arr9_set _ HI9.out _))
                  have HBS6 := hid (HBS5.out.keep f6 (fun e => HZZ.out.2.2 e.symm))
                  have HM6 := hid (HM5.out.keep f6 (fun b hb e => HGP.out.a (e ▸ hb)))
                  have HR6 := hid (row_keep HR5.out f6 (fun b hb e => by
                    obtain ⟨cs, k⟩ := row_type HR5.out hb
                    exact absurd ((e ▸ k : Blk w5 za cs 3).type HBA5.out) (by decide)))
                  have HF6 : Hid (Fr fp w (w5.setCell ⟨za, i, none⟩ (.int .i64 ((av : Int) + 1)))) := hid (HF5.out.step f6 (fun b hb e => by have h1 := HZZ.out; omega))
                  have HF06 := hid (HF05.out.into f6 (by have h1 := HZZ.out; have h2 := HF0.out.size; omega))
                  generalize w5.setCell ⟨za, i, none⟩ (.int .i64 ((av : Int) + 1)) = w6 at *
                  clear f6 ca ya HBA5 HBS5 HM5 HR5 HF5 HF05
                  have cs6 : w6.cell? ⟨zs, i, none⟩ = some (.int .i64 sn) := by
                    have h := HBS6.out.cell i (arr9_at _ HI9.out)
                    rw [set1_at] at h; exact h
                  have HCC : Hid (at_ i < capL ls i) := hid (by rw [HUL2.out, ← HAV.out]; have := HC.out; omega)
                  obtain ⟨q1, q2, q3, q4⟩ := HTI.out.fresh HIN.out HCC.out
                  have HTP := hid (HTI.out.put HIN.out HCC.out)
                  have HMP := hid (mu_put HTI.out (T := TT) (k := k) HNN.out.2.1 HIN.out HCC.out)
                  obtain ⟨p1, p2, _⟩ := HTI.out.ni.put HIN.out q2 q3 (by omega) q1
                  have hav2 := HAV.out
                  rw [← hav2] at q1 q2 q3 q4 HTP HMP p1 p2
                  have hstA : stA (rowL ls i) i (av + 1) = 9 * sn + i := by unfold stA; rw [HSNE.out.1]
                  rw [hstA] at q1 q2 q3 q4 HTP p1 p2
                  obtain ⟨a, ha⟩ : ∃ a, a = 9 * sn + (i : Int) := ⟨_, rfl⟩
                  rw [← ha] at q1 q2 q3 q4 HTP p1 p2
                  have hwa : wrap64 (9 * sn + (i : Int)) = a := by rw [ha]; exact w64d (by omega) (by omega)
                  have HWA : Hid (wrap64 (wrap64 (9 * sn) + (i : Int)) = a) := hid (by have := HSNE.out.2; rw [w64d (x := 9 * sn) (by omega) (by omega)]; exact hwa)
                  have HAA : Hid (stA (rowL ls i) i (av + 1) = a) := hid (by rw [hstA, ha])
                  have HP1 := hid p1
                  have HP2 := hid p2
                  clear q1 q2 q3 q4 p1 p2 hav2 hstA ha hwa
                  go_upto_region 18 with (fail)
                  have HLW : Hid (wrap64 ((lfN : Int) - 1) = ((sumN n (capL ls) - sumN n (set1 at_ i (av + 1)) : Nat) : Int)) := hid (by
                    have h1 := sumN_set HIN.out at_ (av + 1)
                    rw [← HAV.out] at h1
                    have h2 := HLF.out
                    have h3 := HLP.out
                    have h4 := HUL.out
                    rw [w64d (by omega) (by omega)]
                    omega)
                  generalize wrap64 ((lfN : Int) - 1) = lfV at *
                  have HCT : Hid (cntS (isP n f L) < 100000) := hid (by
                    rw [cnt_isP HNN.out.2.1]
                    have h1 := HTI.out.len
                    have h2 := HLF.out
                    have h3 := cap_bd ls n
                    have h4 := HNN.out
                    omega)
                  have HKW : Hid (wrap64 ((k : Int) + 1) = ((k + 1 : Nat) : Int)) := hid (by have h1 := HKG.out; have h2 := HMU.out; have h3 := HTB.out; rw [w64d (by omega) (by omega)]; omega)
                  clear hul99 hiNi hi9i hav9 hiNi2 hi9i2
                  go_wp2_with fail
                  generalize wrap64 (wrap64 (9 * sn) + (i : Int)) = a2 at *
                  have haa : a2 = a := HWA.out
                  subst haa
                  with_reducible refine (HON.out a2 _).mono ?_
                  rintro e w7 ⟨rfl, f7⟩
                  have HPU := hid (put_o (i : Int) (oneP a2) (.slice none 0 0) (HM6.out.keep0 f7) (one_body _) HCT.out)
                  rw [HP1.out, HP2.out, oneP_a] at HPU
                  have HBA7 := hid (HBA6.out.keep f7 (fun h => h))
                  have HBS7 := hid (HBS6.out.keep f7 (fun h => h))
                  have HR7 := hid (row_keep HR6.out f7 (fun _ _ h => h))
                  have HF7 := hid (HF6.out.trans (f7.mono (fun _ _ h => h.elim)))
                  have HF07 := hid (HF06.out.trans f7)
                  clear f7 cs6 HM6 HBA6 HBS6 HR6 HF6 HF06
                  go_wp2_with fail
                  with_reducible refine HPU.out.mono ?_
                  rintro e w8 ⟨rfl, o8, f8⟩
                  have HM8 := hid o8
                  have HGP8 := hid (HGP.out.more (W' := w8) HF7.out.size HBA7.out.lt HBS7.out.lt)
                  have HBA8 := hid (HBA7.out.keep f8 HGP.out.a)
                  have HBS8 := hid (HBS7.out.keep f8 HGP.out.s)
                  have HR8 := hid (row_keep HR7.out f8 (fun b hb e => HNG.out b hb e))
                  have HNG8 : Hid (∀ b, b ∈ footOf u12 → ¬ fpN gp w7 w8 b) := hid (fun b hb hx => by
                    rcases hx with hx | hx
                    · exact HNG.out b hb hx
                    · have := row_live HR7.out b hb; omega)
                  have HF8 : Hid (Fr fp w w8) := hid (HF7.out.step f8 (fun b hb hx => by
                    rcases HGP.out.own b hx with h | h
                    · exact h
                    · omega))
                  have HF08 : Hid (Fr (fun _ => False) w0 w8) := hid (HF07.out.step f8 (fun b hb hx => by
                    have h2 := HF0.out.size
                    rcases HGP.out.own b hx with h | h
                    · have := HFP.out b h; omega
                    · omega))
                  have hca := cast_set at_ i (av + 1)
                  rw [show (((av + 1 : Nat)) : Int) = (av : Int) + 1 by omega] at hca
                  have hcs := sum_set ls at_ i (av + 1)
                  rw [HSNE.out.1] at hcs
                  rw [← hca] at HBA8
                  rw [← hcs] at HBS8
                  generalize fpN gp w7 w8 = hp at *
                  generalize set1 at_ i (av + 1) = at8 at *
                  generalize set1 f i a2 = f8' at *
                  generalize set1 L i (L i ++ [a2]) = L8 at *
                  clear o8 f8 HPU HBA7 HBS7 HR7 HF7 HF07 hca hcs HP1 HP2
                  obtain ⟨r3, hr3⟩ : ∃ r3, r3 = k % 3 := ⟨_, rfl⟩
                  have ht3 : Int.tmod (k : Int) 3 = (r3 : Int) := by rw [hr3]; rfl
                  clear hr3
                  by_cases h30 : r3 = 0
                  · have hb3 : ((r3 : Int) == 0) = true := by simp [h30]
                    have hd3 : decide ((r3 : Int) = 0) = true := by simp [h30]
                    clear h30
                    go_upto_region 22 with (fail)
                    clear hb3 hd3 ht3
                    have HCT8 : Hid (cntS (isP n f8' L8) < 100000) := hid (by
                      rw [cnt_isP HNN.out.2.1]
                      have h1 := HTP.out.len
                      have h2 := sumN_le HTP.out.cap
                      have h3 := cap_bd ls n
                      have h4 := HNN.out
                      omega)
                    go_wp2_with fail
                    with_reducible refine (take_o HM8.out HCT8.out).mono ?_
                    rintro e w9 ⟨v9, out, S9, la9, rfl, t9, o9, i9, n9, _, f9⟩
                    obtain ⟨L9, l9, O9, rfl, rfl, hO, HTI9', _⟩ := HTP.out.told t9
                    have hlen9 : out.length = O9.length := by have := congrArg List.length hO; rw [List.length_map, List.length_map] at this; exact this
                    have hO9l : O.length + O9.length ≤ 400 := by
                      have h1 := HTI9'.len
                      have h2 := sumN_le HTI9'.cap
                      have h3 := cap_bd ls n
                      have h4 := HNN.out
                      rw [List.length_append] at h1
                      omega
                    have HST := hid (stamps_any v9 out _ i9 (by omega))
                    rw [show (out.map fun x => Value.int .i64 x.x.k.s) = O9.map (.int .i64) from by
                      have h := congrArg (List.map fun x : PI => Value.int .i64 x.k.s) hO
                      rw [List.map_map, List.map_map] at h
                      exact h, hlen9] at HST
                    obtain ⟨a9, p9, hv9⟩ := i9.1.shape
                    subst hv9
                    have HM9 := hid o9
                    have HTI9 := hid HTI9'
                    have HBA9 := hid (HBA8.out.keep f9 HGP8.out.a)
                    have HBS9 := hid (HBS8.out.keep f9 HGP8.out.s)
                    have HR9 := hid (row_keep HR8.out f9 (fun b hb e => HNG8.out b hb e))
                    have HF9 : Hid (Fr fp w w9) := hid (HF8.out.step f9 (fun b hb hx => by
                      rcases HGP8.out.own b hx with h | h
                      · exact h
                      · omega))
                    have HF09 : Hid (Fr (fun _ => False) w0 w9) := hid (HF08.out.step f9 (fun b hb hx => by
                      have h2 := HF0.out.size
                      rcases HGP8.out.own b hx with h | h
                      · have := HFP.out b h; omega
                      · omega))
                    have HOL := hid hO9l
                    generalize out.length = nO at *
                    clear t9 o9 i9 n9 f9 hO HTI9' hlen9 hO9l
                    go_wp2_with fail
                    with_reducible refine HST.out.mono ?_
                    rintro e wA ⟨uA, rfl, rA, nA, fA⟩
                    have HRA := hid rA
                    have HRO := hid (row_keep HR9.out fA (fun _ _ h => h))
                    have HMA := hid (HM9.out.keep0 fA)
                    have HBAA := hid (HBA9.out.keep fA (fun h => h))
                    have HBSA := hid (HBS9.out.keep fA (fun h => h))
                    have HFA := hid (HF9.out.trans (fA.mono (fun _ _ h => h.elim)))
                    have HF0A := hid (HF09.out.trans fA)
                    clear rA nA fA HST HM9 HBA9 HBS9 HR9 HF9 HF09
                    go_wp2_with (at_builtin; refine wpList_append_ints rfl _ _ rfl _ O O9 rfl HRO.out _ rfl HRA.out (by have := HOL.out; omega) ?_)
                    intro v' wB rB fB gB
                    have HRB := hid rB
                    have HABB : Hid (Above w.heap.size (footOf v')) := hid (fun b hb => by
                      rcases gB b hb with h | h
                      · exact HAB.out b h
                      · have := HFA.out.size; omega)
                    have HNGB : Hid (∀ b, b ∈ footOf v' → ¬ hp b) := hid (fun b hb hx => by
                      rcases gB b hb with h | h
                      · exact HNG8.out b h hx
                      · have := HMA.out.live b hx; omega)
                    have HMB := hid (HMA.out.keep fB (fun b hb hx => HNG8.out b hx hb))
                    have HBAB := hid (HBAA.out.keep_row HRO.out (by decide) fB)
                    have HBSB := hid (HBSA.out.keep_row HRO.out (by decide) fB)
                    have HFB : Hid (Fr fp w wB) := hid (HFA.out.step fB (fun b hb hx => by have := HAB.out b hx; omega))
                    clear rB fB gB
                    go_wp2_with fail
                    go_roundg (muT ls TT n (k + 1) at8)
                    case rel => exact ⟨k + 1, at8, f8', L9, l9, O ++ O9, hp, rfl, by have h1 := HKG.out; have h2 := HMP.out; have h3 := HG.out; omega, by rw [HKW.out], by rw [HLW.out], HTI9.out, HMB.out, HGP8.out, HBAB.out, HBSB.out, by rw [List.length_append, List.map_append]; exact HRB.out, HABB.out, HNGB.out, HFB.out⟩
                    case measure => have h2 := HMP.out; have h3 := HG.out; omega
                  · have hb3 : ((r3 : Int) == 0) = false := by simp [h30]
                    have hd3 : decide ((r3 : Int) = 0) = false := by simp [h30]
                    clear h30
                    go_wp2_with fail
                    go_roundg (muT ls TT n (k + 1) at8)
                    case rel => exact ⟨k + 1, at8, f8', L8, l0, O, hp, rfl, by have h1 := HKG.out; have h2 := HMP.out; have h3 := HG.out; omega, by rw [HKW.out], by rw [HLW.out], HTP.out, HM8.out, HGP8.out, HBA8.out, HBS8.out, HR8.out, HAB.out, HNG8.out, HF8.out⟩
                    case measure => have h2 := HMP.out; have h3 := HG.out; omega
                · have e3 : decide ((40 : Int) ≤ (av : Int)) = true := decide_eq_true (by omega)
                  have e3n : decide (40 ≤ av) = true := decide_eq_true (by omega)
                  have HNC : Hid (¬ at_ i < capL ls i) := hid (by rw [HUL2.out, ← HAV.out]; omega)
                  go_wp2_with fail
                  refine wp_region_held_drew (S := fun W => W.cell? ⟨za, i, none⟩ = some (.int .i64 (av : Int)) ∧ W.cell? ⟨b, off + i, none⟩ = some (.slice uo ul uc)) (by kernel_rfl) (PS.out _ f0z) (fun hHeld => ?_)
                  refine wpAnyH_take (i := 0) (v := ?_) rfl (by kernel_rfl) (by kernel_rfl) (by kernel_rfl) (fun _ _ _ h => h) (Or.inl ⟨by rfl, ?_⟩) hHeld ?_
                  rotate_left 1
                  · (intro w hSw; (try dsimp only at hSw); go_simp <;> with_reducible rfl)
                  try simp only [Act.put, List.setIfInBounds_toArray, List.set_cons_zero, List.set_cons_succ, List.getElem_toArray, List.getElem_cons_succ, List.getElem_cons_zero]
                  refine wpAnyH_take (i := 1) (v := ?_) rfl (by kernel_rfl) (by kernel_rfl) (by kernel_rfl) (fun _ _ _ h => h) (Or.inl ⟨by rfl, ?_⟩) hHeld ?_
                  rotate_left 1
                  · (intro w hSw; (try dsimp only at hSw); go_simp <;> with_reducible rfl)
                  try simp only [Act.put, List.setIfInBounds_toArray, List.set_cons_zero, List.set_cons_succ, List.getElem_toArray, List.getElem_cons_succ, List.getElem_cons_zero]
                  refine wpAnyH_take (i := 2) (v := ?_) rfl (by kernel_rfl) (by kernel_rfl) (by kernel_rfl) (fun _ _ _ h => h) (Or.inl ⟨by rfl, ?_⟩) hHeld ?_
                  rotate_left 1
                  · (intro w hSw; (try dsimp only at hSw); go_simp <;> with_reducible rfl)
                  try simp only [Act.put, List.setIfInBounds_toArray, List.set_cons_zero, List.set_cons_succ, List.getElem_toArray, List.getElem_cons_succ, List.getElem_cons_zero]
                  refine wpAnyH_take (i := 3) (v := ?_) rfl (by kernel_rfl) (by kernel_rfl) (by kernel_rfl) (fun _ _ _ h => h) (Or.inl ⟨by rfl, ?_⟩) hHeld ?_
                  rotate_left 1
                  · (intro w hSw; (try dsimp only at hSw); go_simp <;> with_reducible rfl)
                  try simp only [Act.put, List.setIfInBounds_toArray, List.set_cons_zero, List.set_cons_succ, List.getElem_toArray, List.getElem_cons_succ, List.getElem_cons_zero]
                  refine wpAnyH_take (i := 4) (v := ?_) rfl (by kernel_rfl) (by kernel_rfl) (by kernel_rfl) (fun _ _ _ h => h) (Or.inl ⟨by rfl, ?_⟩) hHeld ?_
                  rotate_left 1
                  · (intro w hSw; (try dsimp only at hSw); go_simp <;> with_reducible rfl)
                  try simp only [Act.put, List.setIfInBounds_toArray, List.set_cons_zero, List.set_cons_succ, List.getElem_toArray, List.getElem_cons_succ, List.getElem_cons_zero]
                  refine wpAnyH_take (i := 5) (v := ?_) rfl (by kernel_rfl) (by kernel_rfl) (by kernel_rfl) (fun _ _ _ h => h) (Or.inl ⟨by rfl, ?_⟩) hHeld ?_
                  rotate_left 1
                  · (intro w hSw; (try dsimp only at hSw); go_simp <;> with_reducible rfl)
                  try simp only [Act.put, List.setIfInBounds_toArray, List.set_cons_zero, List.set_cons_succ, List.getElem_toArray, List.getElem_cons_succ, List.getElem_cons_zero]
                  refine wpAnyH_take (i := 6) (v := ?_) rfl (by kernel_rfl) (by kernel_rfl) (by kernel_rfl) (fun _ _ _ h => h) (Or.inl ⟨by rfl, ?_⟩) hHeld ?_
                  rotate_left 1
                  · (intro w hSw; (try dsimp only at hSw); go_simp <;> with_reducible rfl)
                  try simp only [Act.put, List.setIfInBounds_toArray, List.set_cons_zero, List.set_cons_succ, List.getElem_toArray, List.getElem_cons_succ, List.getElem_cons_zero]
                  refine wpAnyH_take (i := 7) (v := ?_) rfl (by kernel_rfl) (by kernel_rfl) (by kernel_rfl) (fun _ _ _ h => h) (Or.inl ⟨by rfl, ?_⟩) hHeld ?_
                  rotate_left 1
                  · (intro w hSw; (try dsimp only at hSw); go_simp <;> with_reducible rfl)
                  try simp only [Act.put, List.setIfInBounds_toArray, List.set_cons_zero, List.set_cons_succ, List.getElem_toArray, List.getElem_cons_succ, List.getElem_cons_zero]
                  refine wpAnyH_take (i := 8) (v := ?_) rfl (by kernel_rfl) (by kernel_rfl) (by kernel_rfl) (fun _ _ _ h => h) (Or.inl ⟨by rfl, ?_⟩) hHeld ?_
                  rotate_left 1
                  · (intro w hSw; (try dsimp only at hSw); go_simp <;> with_reducible rfl)
                  try simp only [Act.put, List.setIfInBounds_toArray, List.set_cons_zero, List.set_cons_succ, List.getElem_toArray, List.getElem_cons_succ, List.getElem_cons_zero]
                  refine wpAnyH_take (i := 9) (v := ?_) rfl (by kernel_rfl) (by kernel_rfl) (by kernel_rfl) (fun _ _ _ h => h) (Or.inl ⟨by rfl, ?_⟩) hHeld ?_
                  rotate_left 1
                  · (intro w hSw; (try dsimp only at hSw); go_simp <;> with_reducible rfl)
                  try simp only [Act.put, List.setIfInBounds_toArray, List.set_cons_zero, List.set_cons_succ, List.getElem_toArray, List.getElem_cons_succ, List.getElem_cons_zero]
                  refine wpAnyH_take (i := 10) (v := ?_) rfl (by kernel_rfl) (by kernel_rfl) (by kernel_rfl) (fun _ _ _ h => h) (Or.inl ⟨by rfl, ?_⟩) hHeld ?_
                  rotate_left 1
                  · (intro w hSw; (try dsimp only at hSw); go_simp <;> with_reducible rfl)
                  try simp only [Act.put, List.setIfInBounds_toArray, List.set_cons_zero, List.set_cons_succ, List.getElem_toArray, List.getElem_cons_succ, List.getElem_cons_zero]
                  refine wpAnyH_take (i := 11) (v := ?_) rfl (by kernel_rfl) (by kernel_rfl) (by kernel_rfl) (fun _ _ _ h => h) (Or.inl ⟨by rfl, ?_⟩) hHeld ?_
                  rotate_left 1
                  · (intro w hSw; (try dsimp only at hSw); go_simp <;> with_reducible rfl)
                  try simp only [Act.put, List.setIfInBounds_toArray, List.set_cons_zero, List.set_cons_succ, List.getElem_toArray, List.getElem_cons_succ, List.getElem_cons_zero]
                  refine wpAnyH_take (i := 12) (v := ?_) rfl (by kernel_rfl) (by kernel_rfl) (by kernel_rfl) (fun _ _ _ h => h) (Or.inl ⟨by rfl, ?_⟩) hHeld ?_
                  rotate_left 1
                  · (intro w hSw; (try dsimp only at hSw); go_simp <;> with_reducible rfl)
                  try simp only [Act.put, List.setIfInBounds_toArray, List.set_cons_zero, List.set_cons_succ, List.getElem_toArray, List.getElem_cons_succ, List.getElem_cons_zero]
                  refine wpAnyH_take (i := 13) (v := ?_) rfl (by kernel_rfl) (by kernel_rfl) (by kernel_rfl) (fun _ _ _ h => h) (Or.inl ⟨by rfl, ?_⟩) hHeld ?_
                  rotate_left 1
                  · (intro w hSw; (try dsimp only at hSw); go_simp <;> with_reducible rfl)
                  try simp only [Act.put, List.setIfInBounds_toArray, List.set_cons_zero, List.set_cons_succ, List.getElem_toArray, List.getElem_cons_succ, List.getElem_cons_zero]
                  refine wpAnyH_take (i := 14) (v := ?_) rfl (by kernel_rfl) (by kernel_rfl) (by kernel_rfl) (fun _ _ _ h => h) (Or.inl ⟨by rfl, ?_⟩) hHeld ?_
                  rotate_left 1
                  · (intro w hSw; (try dsimp only at hSw); go_simp <;> with_reducible rfl)
                  try simp only [Act.put, List.setIfInBounds_toArray, List.set_cons_zero, List.set_cons_succ, List.getElem_toArray, List.getElem_cons_succ, List.getElem_cons_zero]
                  refine wpAnyH_take (i := 15) (v := ?_) rfl (by kernel_rfl) (by kernel_rfl) (by kernel_rfl) (fun _ _ _ h => h) (Or.inl ⟨by rfl, ?_⟩) hHeld ?_
                  rotate_left 1
                  · (intro w hSw; (try dsimp only at hSw); go_simp <;> with_reducible rfl)
                  try simp only [Act.put, List.setIfInBounds_toArray, List.set_cons_zero, List.set_cons_succ, List.getElem_toArray, List.getElem_cons_succ, List.getElem_cons_zero]
                  refine wpAnyH_take (i := 16) (v := ?_) rfl (by kernel_rfl) (by kernel_rfl) (by kernel_rfl) (fun _ _ _ h => h) (Or.inl ⟨by rfl, ?_⟩) hHeld ?_
                  rotate_left 1
                  · (intro w hSw; (try dsimp only at hSw); go_simp <;> with_reducible rfl)
                  try simp only [Act.put, List.setIfInBounds_toArray, List.set_cons_zero, List.set_cons_succ, List.getElem_toArray, List.getElem_cons_succ, List.getElem_cons_zero]
                  refine wpAnyH_take (i := 17) (v := ?_) rfl (by kernel_rfl) (by kernel_rfl) (by kernel_rfl) (fun _ _ _ h => h) (Or.inl ⟨by rfl, ?_⟩) hHeld ?_
                  rotate_left 1
                  · (intro w hSw; (try dsimp only at hSw); go_simp <;> with_reducible rfl)
                  try simp only [Act.put, List.setIfInBounds_toArray, List.set_cons_zero, List.set_cons_succ, List.getElem_toArray, List.getElem_cons_succ, List.getElem_cons_zero]
                  refine wpAnyH_take (i := 18) (v := ?_) rfl (by kernel_rfl) (by kernel_rfl) (by kernel_rfl) (fun _ _ _ h => h) (Or.inl ⟨by rfl, ?_⟩) hHeld ?_
                  rotate_left 1
                  · (intro w hSw; (try dsimp only at hSw); go_simp <;> with_reducible rfl)
                  try simp only [Act.put, List.setIfInBounds_toArray, List.set_cons_zero, List.set_cons_succ, List.getElem_toArray, List.getElem_cons_succ, List.getElem_cons_zero]
                  refine wpAnyH_take (i := 19) (v := ?_) rfl (by kernel_rfl) (by kernel_rfl) (by kernel_rfl) (fun _ _ _ h => h) (Or.inl ⟨by rfl, ?_⟩) hHeld ?_
                  rotate_left 1
                  · (intro w hSw; (try dsimp only at hSw); go_simp <;> with_reducible rfl)
                  try simp only [Act.put, List.setIfInBounds_toArray, List.set_cons_zero, List.set_cons_succ, List.getElem_toArray, List.getElem_cons_succ, List.getElem_cons_zero]
                  refine wpAnyH_take (i := 20) (v := ?_) rfl (by kernel_rfl) (by kernel_rfl) (by kernel_rfl) (fun _ _ _ h => h) (Or.inl ⟨by rfl, ?_⟩) hHeld ?_
                  rotate_left 1
                  · (intro w hSw; (try dsimp only at hSw); go_simp <;> with_reducible rfl)
                  try simp only [Act.put, List.setIfInBounds_toArray, List.set_cons_zero, List.set_cons_succ, List.getElem_toArray, List.getElem_cons_succ, List.getElem_cons_zero]
                  refine wpAnyH_done (by kernel_rfl) ?_ _
                  clear hHeld
                  have HTQ := hid (mu_skip HTI.out (T := TT) HNN.out.2.1 HIN.out HNC.out HIT.out (by have h1 := HLP.out; have h2 := HLF.out; omega))
                  have HKW : Hid (wrap64 ((k : Int) + 1) = ((k + 1 : Nat) : Int)) := hid (by have h1 := HKG.out; have h2 := HMU.out; have h3 := HTB.out; rw [w64d (by omega) (by omega)]; omega)
                  have HLE : Hid (sumN n (capL ls) - sumN n at_ = lfN) := hid (by have := HLF.out; omega)
                  go_wp2_with fail
                  go_roundg (muT ls TT n (k + 1) at_)
                  case rel => exact ⟨k + 1, at_, f, L, l0, O, gp, rfl, by have h1 := HKG.out; have h2 := HTQ.out; have h3 := HG.out; omega, by rw [HKW.out], by rw [HLE.out], HTI.out, HMw.out.keep0 f0, HGP.out, HBA.out.keep f0 (fun h => h), HBS.out.keep f0 (fun h => h), row_keep HR.out f0 (fun _ _ h => h), HAB.out, HNG.out, HFr.out.trans (f0.mono (fun _ _ h => h.elim))⟩
                  case measure => have h2 := HTQ.out; have h3 := HG.out; omega
              · have e2 : decide ((ul : Int) ≤ (av : Int)) = true := decide_eq_true (by omega)
                have e2n : decide (ul ≤ av) = true := decide_eq_true (by omega)
                have HNC : Hid (¬ at_ i < capL ls i) := hid (by rw [HUL2.out, ← HAV.out]; omega)
                go_wp2_with fail
                refine wp_region_held_drew (S := fun W => W.cell? ⟨za, i, none⟩ = some (.int .i64 (av : Int)) ∧ W.cell? ⟨b, off + i, none⟩ = some (.slice uo ul uc)) (by kernel_rfl) (PS.out _ f0z) (fun hHeld => ?_)
                refine wpAnyH_take (i := 0) (v := ?_) rfl (by kernel_rfl) (by kernel_rfl) (by kernel_rfl) (fun _ _ _ h => h) (Or.inl ⟨by rfl, ?_⟩) hHeld ?_
                rotate_left 1
                · (intro w hSw; (try dsimp only at hSw); go_simp <;> with_reducible rfl)
                try simp only [Act.put, List.setIfInBounds_toArray, List.set_cons_zero, List.set_cons_succ, List.getElem_toArray, List.getElem_cons_succ, List.getElem_cons_zero]
                refine wpAnyH_take (i := 1) (v := ?_) rfl (by kernel_rfl) (by kernel_rfl) (by kernel_rfl) (fun _ _ _ h => h) (Or.inl ⟨by rfl, ?_⟩) hHeld ?_
                rotate_left 1
                · (intro w hSw; (try dsimp only at hSw); go_simp <;> with_reducible rfl)
                try simp only [Act.put, List.setIfInBounds_toArray, List.set_cons_zero, List.set_cons_succ, List.getElem_toArray, List.getElem_cons_succ, List.getElem_cons_zero]
                refine wpAnyH_take (i := 2) (v := ?_) rfl (by kernel_rfl) (by kernel_rfl) (by kernel_rfl) (fun _ _ _ h => h) (Or.inl ⟨by rfl, ?_⟩) hHeld ?_
                rotate_left 1
                · (intro w hSw; (try dsimp only at hSw); go_simp <;> with_reducible rfl)
                try simp only [Act.put, List.setIfInBounds_toArray, List.set_cons_zero, List.set_cons_succ, List.getElem_toArray, List.getElem_cons_succ, List.getElem_cons_zero]
                refine wpAnyH_take (i := 3) (v := ?_) rfl (by kernel_rfl) (by kernel_rfl) (by kernel_rfl) (fun _ _ _ h => h) (Or.inl ⟨by rfl, ?_⟩) hHeld ?_
                rotate_left 1
                · (intro w hSw; (try dsimp only at hSw); go_simp <;> with_reducible rfl)
                try simp only [Act.put, List.setIfInBounds_toArray, List.set_cons_zero, List.set_cons_succ, List.getElem_toArray, List.getElem_cons_succ, List.getElem_cons_zero]
                refine wpAnyH_take (i := 4) (v := ?_) rfl (by kernel_rfl) (by kernel_rfl) (by kernel_rfl) (fun _ _ _ h => h) (Or.inl ⟨by rfl, ?_⟩) hHeld ?_
                rotate_left 1
                · (intro w hSw; (try dsimp only at hSw); go_simp <;> with_reducible rfl)
                try simp only [Act.put, List.setIfInBounds_toArray, List.set_cons_zero, List.set_cons_succ, List.getElem_toArray, List.getElem_cons_succ, List.getElem_cons_zero]
                refine wpAnyH_take (i := 5) (v := ?_) rfl (by kernel_rfl) (by kernel_rfl) (by kernel_rfl) (fun _ _ _ h => h) (Or.inl ⟨by rfl, ?_⟩) hHeld ?_
                rotate_left 1
                · (intro w hSw; (try dsimp only at hSw); go_simp <;> with_reducible rfl)
                try simp only [Act.put, List.setIfInBounds_toArray, List.set_cons_zero, List.set_cons_succ, List.getElem_toArray, List.getElem_cons_succ, List.getElem_cons_zero]
                refine wpAnyH_take (i := 6) (v := ?_) rfl (by kernel_rfl) (by kernel_rfl) (by kernel_rfl) (fun _ _ _ h => h) (Or.inl ⟨by rfl, ?_⟩) hHeld ?_
                rotate_left 1
                · (intro w hSw; (try dsimp only at hSw); go_simp <;> with_reducible rfl)
                try simp only [Act.put, List.setIfInBounds_toArray, List.set_cons_zero, List.set_cons_succ, List.getElem_toArray, List.getElem_cons_succ, List.getElem_cons_zero]
                refine wpAnyH_take (i := 7) (v := ?_) rfl (by kernel_rfl) (by kernel_rfl) (by kernel_rfl) (fun _ _ _ h => h) (Or.inl ⟨by rfl, ?_⟩) hHeld ?_
                rotate_left 1
                · (intro w hSw; (try dsimp only at hSw); go_simp <;> with_reducible rfl)
                try simp only [Act.put, List.setIfInBounds_toArray, List.set_cons_zero, List.set_cons_succ, List.getElem_toArray, List.getElem_cons_succ, List.getElem_cons_zero]
                refine wpAnyH_take (i := 8) (v := ?_) rfl (by kernel_rfl) (by kernel_rfl) (by kernel_rfl) (fun _ _ _ h => h) (Or.inl ⟨by rfl, ?_⟩) hHeld ?_
                rotate_left 1
                · (intro w hSw; (try dsimp only at hSw); go_simp <;> with_reducible rfl)
                try simp only [Act.put, List.setIfInBounds_toArray, List.set_cons_zero, List.set_cons_succ, List.getElem_toArray, List.getElem_cons_succ, List.getElem_cons_zero]
                refine wpAnyH_take (i := 9) (v := ?_) rfl (by kernel_rfl) (by kernel_rfl) (by kernel_rfl) (fun _ _ _ h => h) (Or.inl ⟨by rfl, ?_⟩) hHeld ?_
                rotate_left 1
                · (intro w hSw; (try dsimp only at hSw); go_simp <;> with_reducible rfl)
                try simp only [Act.put, List.setIfInBounds_toArray, List.set_cons_zero, List.set_cons_succ, List.getElem_toArray, List.getElem_cons_succ, List.getElem_cons_zero]
                refine wpAnyH_take (i := 10) (v := ?_) rfl (by kernel_rfl) (by kernel_rfl) (by kernel_rfl) (fun _ _ _ h => h) (Or.inl ⟨by rfl, ?_⟩) hHeld ?_
                rotate_left 1
                · (intro w hSw; (try dsimp only at hSw); go_simp <;> with_reducible rfl)
                try simp only [Act.put, List.setIfInBounds_toArray, List.set_cons_zero, List.set_cons_succ, List.getElem_toArray, List.getElem_cons_succ, List.getElem_cons_zero]
                refine wpAnyH_take (i := 11) (v := ?_) rfl (by kernel_rfl) (by kernel_rfl) (by kernel_rfl) (fun _ _ _ h => h) (Or.inl ⟨by rfl, ?_⟩) hHeld ?_
                rotate_left 1
                · (intro w hSw; (try dsimp only at hSw); go_simp <;> with_reducible rfl)
                try simp only [Act.put, List.setIfInBounds_toArray, List.set_cons_zero, List.set_cons_succ, List.getElem_toArray, List.getElem_cons_succ, List.getElem_cons_zero]
                refine wpAnyH_take (i := 12) (v := ?_) rfl (by kernel_rfl) (by kernel_rfl) (by kernel_rfl) (fun _ _ _ h => h) (Or.inl ⟨by rfl, ?_⟩) hHeld ?_
                rotate_left 1
                · (intro w hSw; (try dsimp only at hSw); go_simp <;> with_reducible rfl)
                try simp only [Act.put, List.setIfInBounds_toArray, List.set_cons_zero, List.set_cons_succ, List.getElem_toArray, List.getElem_cons_succ, List.getElem_cons_zero]
                refine wpAnyH_take (i := 13) (v := ?_) rfl (by kernel_rfl) (by kernel_rfl) (by kernel_rfl) (fun _ _ _ h => h) (Or.inl ⟨by rfl, ?_⟩) hHeld ?_
                rotate_left 1
                · (intro w hSw; (try dsimp only at hSw); go_simp <;> with_reducible rfl)
                try simp only [Act.put, List.setIfInBounds_toArray, List.set_cons_zero, List.set_cons_succ, List.getElem_toArray, List.getElem_cons_succ, List.getElem_cons_zero]
                refine wpAnyH_take (i := 14) (v := ?_) rfl (by kernel_rfl) (by kernel_rfl) (by kernel_rfl) (fun _ _ _ h => h) (Or.inl ⟨by rfl, ?_⟩) hHeld ?_
                rotate_left 1
                · (intro w hSw; (try dsimp only at hSw); go_simp <;> with_reducible rfl)
                try simp only [Act.put, List.setIfInBounds_toArray, List.set_cons_zero, List.set_cons_succ, List.getElem_toArray, List.getElem_cons_succ, List.getElem_cons_zero]
                refine wpAnyH_take (i := 15) (v := ?_) rfl (by kernel_rfl) (by kernel_rfl) (by kernel_rfl) (fun _ _ _ h => h) (Or.inl ⟨by rfl, ?_⟩) hHeld ?_
                rotate_left 1
                · (intro w hSw; (try dsimp only at hSw); go_simp <;> with_reducible rfl)
                try simp only [Act.put, List.setIfInBounds_toArray, List.set_cons_zero, List.set_cons_succ, List.getElem_toArray, List.getElem_cons_succ, List.getElem_cons_zero]
                refine wpAnyH_take (i := 16) (v := undef) rfl (by kernel_rfl) (by kernel_rfl) (by kernel_rfl) (fun _ _ _ h => h) (Or.inr ⟨by rfl, rfl⟩) hHeld ?_
                try simp only [Act.put, List.setIfInBounds_toArray, List.set_cons_zero, List.set_cons_succ, List.getElem_toArray, List.getElem_cons_succ, List.getElem_cons_zero]
                refine wpAnyH_take (i := 17) (v := undef) rfl (by kernel_rfl) (by kernel_rfl) (by kernel_rfl) (fun _ _ _ h => h) (Or.inr ⟨by rfl, rfl⟩) hHeld ?_
                try simp only [Act.put, List.setIfInBounds_toArray, List.set_cons_zero, List.set_cons_succ, List.getElem_toArray, List.getElem_cons_succ, List.getElem_cons_zero]
                refine wpAnyH_take (i := 18) (v := undef) rfl (by kernel_rfl) (by kernel_rfl) (by kernel_rfl) (fun _ _ _ h => h) (Or.inr ⟨by rfl, rfl⟩) hHeld ?_
                try simp only [Act.put, List.setIfInBounds_toArray, List.set_cons_zero, List.set_cons_succ, List.getElem_toArray, List.getElem_cons_succ, List.getElem_cons_zero]
                refine wpAnyH_take (i := 19) (v := undef) rfl (by kernel_rfl) (by kernel_rfl) (by kernel_rfl) (fun _ _ _ h => h) (Or.inr ⟨by rfl, rfl⟩) hHeld ?_
                try simp only [Act.put, List.setIfInBounds_toArray, List.set_cons_zero, List.set_cons_succ, List.getElem_toArray, List.getElem_cons_succ, List.getElem_cons_zero]
                refine wpAnyH_take (i := 20) (v := ?_) rfl (by kernel_rfl) (by kernel_rfl) (by kernel_rfl) (fun _ _ _ h => h) (Or.inl ⟨by rfl, ?_⟩) hHeld ?_
                rotate_left 1
                · (intro w hSw; (try dsimp only at hSw); go_simp <;> with_reducible rfl)
                try simp only [Act.put, List.setIfInBounds_toArray, List.set_cons_zero, List.set_cons_succ, List.getElem_toArray, List.getElem_cons_succ, List.getElem_cons_zero]
                refine wpAnyH_done (by kernel_rfl) ?_ _
                clear hHeld
                have HTQ := hid (mu_skip HTI.out (T := TT) HNN.out.2.1 HIN.out HNC.out HIT.out (by have h1 := HLP.out; have h2 := HLF.out; omega))
                have HKW : Hid (wrap64 ((k : Int) + 1) = ((k + 1 : Nat) : Int)) := hid (by have h1 := HKG.out; have h2 := HMU.out; have h3 := HTB.out; rw [w64d (by omega) (by omega)]; omega)
                have HLE : Hid (sumN n (capL ls) - sumN n at_ = lfN) := hid (by have := HLF.out; omega)
                go_wp2_with fail
                go_roundg (muT ls TT n (k + 1) at_)
                case rel => exact ⟨k + 1, at_, f, L, l0, O, gp, rfl, by have h1 := HKG.out; have h2 := HTQ.out; have h3 := HG.out; omega, by rw [HKW.out], by rw [HLE.out], HTI.out, HMw.out.keep0 f0, HGP.out, HBA.out.keep f0 (fun h => h), HBS.out.keep f0 (fun h => h), row_keep HR.out f0 (fun _ _ h => h), HAB.out, HNG.out, HFr.out.trans (f0.mono (fun _ _ h => h.elim))⟩
                case measure => have h2 := HTQ.out; have h3 := HG.out; omega
          · have HALL : Hid (∀ s, s < n → at_ s = capL ls s) := hid (sumN_eq HTI.out.cap (by have := HLF.out; omega))
            have HFL : Hid (∀ s, s < n → f s ≤ 10000) := hid (fun s hs => by
              have h1 := HTI.out.fl s hs
              have h2 := sumS_bd (rowL ls s) (at_ s)
              have h3 : at_ s ≤ 40 := Nat.le_trans (HTI.out.cap s hs) (Nat.min_le_right _ _)
              have h4 := HNN.out
              unfold stA at h1
              omega)
            have HOL : Hid (O.length + tot n L ≤ 400) := hid (by
              have h1 := HTI.out.len
              have h2 := sumN_le HTI.out.cap
              have h3 := cap_bd ls n
              have h4 := HNN.out
              omega)
            have HN9 := hid HNN.out.2.1
            have HN0 := hid HNN.out.1
            have HLZ : Hid (lfN = 0) := hid (by omega)
            go_upto_region 23 with (fail)
            clear hl0 hul
            go_wp2_with fail
            go_loopw [19] (fun jj wj => ∃ (m : Nat) (g : Nat → Int), m ≤ n ∧ jj = .int .i64 m ∧ NI n 9 g L l0 ∧ (∀ s, s < m → g s = 1099511627776) ∧ (∀ s, m ≤ s → s < n → g s ≤ 10000) ∧ MO wj p (isP n g L) (ky l0) gp ∧ Fr gp wr wj) (fun jj _ => n - (intOf jj).toNat)
            case atStart => exact ⟨0, f, by omega, rfl, HTI.out.ni, fun s hs => by omega, fun s _ hs => HFL.out s hs, HMw.out, Fr.refl _ _⟩
            case round =>
              rename_i wbase _ _ _ _
              obtain ⟨m, g, hm, rfl, hN, hE, hL, hM, hF⟩ := hrel
              have HNi := hid hN
              have HE := hid hE
              have HL := hid hL
              have HM := hid hM
              have HFm := hid hF
              clear hN hE hL hM hF
              by_cases hmn : m < n
              · have HMN := hid hmn
                have HMW : Hid (wrap64 ((m : Int) + 1) = ((m + 1 : Nat) : Int)) := hid (by have := HN9.out; rw [w64d (by omega) (by omega)]; omega)
                clear hm
                go_wp2_with fail
                with_reducible refine (HKY.out _ _).mono ?_
                rintro e w4 ⟨rfl, f4⟩
                obtain ⟨p1, p2, p3⟩ := HNi.out.mark (s := m) (B := 1099511627776) HMN.out (by decide) (by decide) (by have := HL.out m (Nat.le_refl m) HMN.out; omega)
                have HMK := hid (mark_o (m : Int) (ky 1099511627776) (HM.out.keep0 f4))
                rw [p1, p2] at HMK
                unfold ky at HMK
                unfold Ky.agg at HMK
                have HN4 := hid p3
                have HF4 := hid (HFm.out.trans (f4.mono (fun _ _ h => h.elim)))
                clear p1 p2 p3 f4
                go_wp2_with fail
                with_reducible refine HMK.out.mono ?_
                rintro e w5 ⟨rfl, o5, f5⟩
                have HO5 := hid o5
                have HF5 := hid (HF4.out.trans f5)
                clear o5 f5 HMK
                go_wp2_with fail
                go_roundw
                case rel => exact ⟨m + 1, _, by have := HMN.out; omega, by rw [HMW.out], HN4.out, fun s hs => by
                  by_cases e : s = m
                  · subst e; rw [set1_at]
                  · rw [set1_ne _ _ e]; exact HE.out s (by omega), fun s hs hs3 => by
                  rw [set1_ne _ _ (by omega)]; exact HL.out s (by omega) hs3, HO5.out, HF5.out⟩
                case measure => have := HMN.out; rw [HMW.out]; simp [intOf]; omega
              · have hmn' : m = n := by omega
                subst hmn'
                clear hmn hm
                have HCT8 : Hid (cntS (isP m g L) < 100000) := hid (by rw [cnt_isP HN9.out]; have := HOL.out; omega)
                have HRm := hid (row_keep HR.out HFm.out (fun b hb e => HNG.out b hb e))
                have HFp : Hid (Fr fp w wr) := hid (HFr.out.step HFm.out (fun b hb hx => by
                  rcases HGP.out.own b hx with h | h
                  · exact h
                  · omega))
                go_wp2_with fail
                with_reducible refine (take_o HM.out HCT8.out).mono ?_
                rintro e w9 ⟨v9, out, S9, la9, rfl, t9, o9, i9, n9, _, f9⟩
                obtain ⟨L9, l9, O9, rfl, rfl, hO, k1, k2, k3, k4, k5, k6, k7⟩ := HNi.out.told t9
                have hE9 : ∀ s, s < m → L9 s = [] := k1.stop HE.out k7
                have hlen9 : out.length = O9.length := by have := congrArg List.length hO; rw [List.length_map, List.length_map] at this; exact this
                have hk6 : O9.length = tot m L := by rw [tot_zero hE9] at k6; omega
                have HST := hid (stamps_any v9 out _ i9 (by have := HOL.out; omega))
                rw [show (out.map fun x => Value.int .i64 x.x.k.s) = O9.map (.int .i64) from by
                  have h := congrArg (List.map fun x : PI => Value.int .i64 x.k.s) hO
                  rw [List.map_map, List.map_map] at h
                  exact h, hlen9] at HST
                obtain ⟨a9, p9, hv9⟩ := i9.1.shape
                subst hv9
                have HR9 := hid (row_keep HRm.out f9 (fun b hb e => HNG.out b hb e))
                have HF9 : Hid (Fr fp w w9) := hid (HFp.out.step f9 (fun b hb hx => by
                  rcases HGP.out.own b hx with h | h
                  · exact h
                  · omega))
                have HX1 : Hid ((O ++ O9).Pairwise (· < ·)) := hid (by
                  rw [List.pairwise_append]
                  exact ⟨HTI.out.up, k3, fun a ha b hb => by have := HTI.out.le a ha; have := (k4 b hb).1; omega⟩)
                have HX2 : Hid ((O ++ O9).length = sumN m (capL ls)) := hid (by
                  rw [List.length_append]
                  have h1 := HTI.out.len
                  have h2 := HLF.out
                  have h3 := HLZ.out
                  omega)
                have HX3 : Hid (∀ a, a ∈ O ++ O9 ↔ ∃ s, s < m ∧ a ∈ ptsL (rowL ls s) s (capL ls s)) := hid (fun a => by
                  have h1 := HTI.out.mem a
                  have h2 := k5 a
                  rw [List.mem_append]
                  constructor
                  · intro h
                    obtain ⟨s, hs, hx⟩ := h1.1 (by
                      rcases h with h | h
                      · exact .inl h
                      · exact .inr (h2.1 (.inl h)))
                    exact ⟨s, hs, by rw [← HALL.out s hs]; exact hx⟩
                  · rintro ⟨s, hs, hx⟩
                    rcases h1.2 ⟨s, hs, by rw [HALL.out s hs]; exact hx⟩ with h | h
                    · exact .inl h
                    · rcases h2.2 h with h | ⟨t, ht, h⟩
                      · exact .inr h
                      · rw [hE9 t ht] at h; simp at h)
                have HOL9 : Hid (O.length + O9.length ≤ 400) := hid (by have := HOL.out; omega)
                generalize out.length = nO at *
                clear t9 o9 i9 n9 f9 hO hlen9 k1 k2 k3 k4 k5 k6 k7 hE9 hk6
                go_wp2_with fail
                with_reducible refine HST.out.mono ?_
                rintro e wA ⟨uA, rfl, rA, nA, fA⟩
                have HRA := hid rA
                have HRO := hid (row_keep HR9.out fA (fun _ _ h => h))
                have HFA := hid (HF9.out.trans (fA.mono (fun _ _ h => h.elim)))
                clear rA nA fA HST HR9 HF9
                go_wp2_with (at_builtin; refine wpList_append_ints rfl _ _ rfl _ O O9 rfl HRO.out _ rfl HRA.out (by have := HOL9.out; omega) ?_)
                intro v' wB rB fB gB
                have HRB := hid rB
                have HABB : Hid (Above w.heap.size (footOf v')) := hid (fun b hb => by
                  rcases gB b hb with h | h
                  · exact HAB.out b h
                  · have := HFA.out.size; omega)
                have HFB : Hid (Fr fp w wB) := hid (HFA.out.step fB (fun b hb hx => by have := HAB.out b hx; omega))
                clear rB fB gB
                go_wp2_with fail
                go_ret2
                exact ⟨v', O ++ O9, rfl, by rw [List.length_append, List.map_append]; exact HRB.out, HABB.out, HX1.out, HX2.out, HX3.out, HFB.out⟩
      · go_upto_region 8 with (fail)
        clear hk1 hjj hjm hj hj9
        have HMW := hid (HMO.out.keep0 HFW.out)
        generalize wr = w3 at *
        have HTI0 := hid (TI.new (ls := ls) (n := n) HNN.out.2.1)
        have HMU : Hid (muT ls TT n 0 (fun _ => 0) ≤ TT * 10000 + 4000) := hid (by
          unfold muT
          have h1 := left_bd (ls := ls) HNN.out.2.1 (sumN n fun _ => 0)
          have h2 := distF_le (open_ ls fun _ => 0) n n 0
          have h3 := HNN.out.2.1
          omega)
        have HL00 : Hid (lv = ((sumN n (capL ls) - sumN n (fun _ => 0) : Nat) : Int)) := hid (by
          have : sumN n (fun _ => 0) = 0 := by have := HTI0.out.len; rw [tot_zero (fun _ _ => rfl)] at this; simpa using this.symm
          rw [this, HLV.out]; rfl)
        rw [HL00.out]
        generalize hMU : muT ls TT n 0 (fun _ => 0) = MU at HMU
        have HMU0 := hid hMU
        go_wp2_with fail
        go_loopg [12, 13, 15] MU (fun g u lf kk wr => ∃ (k : Nat) (at_ : Nat → Nat) (f : Nat → Int) (L : Nat → List Int) (l0 : Int) (O : List Int) (gp : Nat → Prop), g = muT ls TT n k at_ ∧ k + g ≤ MU ∧ kk = .int .i64 k ∧ lf = .int .i64 ((sumN n (capL ls) - sumN n at_ : Nat) : Int) ∧ TI ls n at_ f L l0 O ∧ MO wr p (isP n f L) (ky l0) gp ∧ GP w za zs fp gp ∧ Blk wr za (arr9 fun s => ((at_ s : Nat) : Int)) 77 ∧ Blk wr zs (arr9 fun s => sumS (rowL ls s) (at_ s)) 77 ∧ wr.ownsRow 0 3 1 u O.length (O.map (.int .i64)) ∧ Above w.heap.size (footOf u) ∧ (∀ b, b ∈ footOf u → ¬ gp b) ∧ Fr fp w wr)
        case atStart => exact ⟨0, fun _ => 0, fun _ => 0, fun _ => [], 0, [], fp, HMU0.out.symm, by omega, rfl, rfl, HTI0.out, HMW.out, ⟨fun b hb => .inl hb, fun hb => by have := HMO.out.live _ hb; have := HZZ.out; omega, fun hb => by have := HMO.out.live _ hb; have := HZZ.out; omega⟩, HAW.out, HSW.out, World.ownsRow_nil _ _ _ _, fun b hb => by simp [footOf, Value.ownBlock] at hb, fun b hb => by simp [footOf, Value.ownBlock] at hb, HFW.out.mono (fun _ _ h => h.elim)⟩
        case round =>
          obtain ⟨k, at_, f, L, l0, O, gp, hg, hkg, rfl, rfl, hTI, hMO, hGP, hBa, hBs, hR, hab, hng, hF⟩ := hrel
          clear HTI0 HMW HAW HSW HMU0 HFW HF2 HA2 HS2 HF HL00 HL0 HLV
          have HG := hid hg
          have HKG := hid hkg
          have HTI := hid hTI
          have HMw := hid hMO
          have HGP := hid hGP
          have HBA := hid hBa
          have HBS := hid hBs
          have HR := hid hR
          have HAB := hid hab
          have HNG := hid hng
          have HFr := hid hF
          have HF0w : Hid (Fr (fun _ => False) w0 wr) := hid (HF0.out.step hF (fun b hb hx => by have := HFP.out b hx; omega))
          obtain ⟨lfN, hlf⟩ : ∃ lfN, lfN = sumN n (capL ls) - sumN n at_ := ⟨_, rfl⟩
          rw [← hlf]
          have HLF : Hid (lfN + sumN n at_ = sumN n (capL ls)) := hid (by have := sumN_le hTI.cap; omega)
          have hul : lfN ≤ 360 := by have := cap_bd ls n; have := HNN.out; omega
          have HUL := hid hul
          clear hg hkg hTI hMO hGP hBa hBs hR hab hng hF hlf
          by_cases hl0 : 0 < lfN
          · have hn0 : ¬ (n : Int) = 0 := by have := HNN.out; omega
            have HN0 := hid hn0
            obtain ⟨i0, hi0⟩ : ∃ i0, i0 = k % n := ⟨_, rfl⟩
            have HI0 : Hid (i0 < n ∧ i0 = k % n) := hid ⟨by rw [hi0]; exact Nat.mod_lt _ (by have := HNN.out; omega), hi0⟩
            have ht : Int.tmod (k : Int) (n : Int) = (i0 : Int) := by rw [hi0]; rfl
            clear hi0
            have HLP := hid hl0
            clear hul
            go_upto_region 12 with (fail)
            clear ht hn0
            go_upto_if 48 with (fail)
            go_cut [16] from 48 to 54 (fun iv wc => ∃ i : Nat, iv = .int .i64 i ∧ i < n ∧ (¬ k < TT → i = k % n) ∧ wr = wc)
            case first =>
              by_cases hkT : k < TT
              · obtain ⟨b, off, hbo, _, hc0⟩ := HTC.out k (by rw [← HTT.out]; exact hkT)
                subst hbo
                have hc := cell_fr HF0w.out hc0
                clear hc0
                have hw := HT64.out (ts.getD k 0) (by rw [List.getD_eq_getElem?_getD, List.getElem?_eq_getElem (by rw [← HTT.out]; exact hkT)]; exact List.getElem_mem _)
                generalize ts.getD k 0 = tv at *
                have hbr := bring_bd tv n (by have := HNN.out; omega)
                have HBR := hid (bring_any tv n wr hw.1 hw.2 (by have := HNN.out; omega) (by have := HNN.out; omega))
                obtain ⟨bi, hbi⟩ : ∃ bi : Nat, bring tv n = bi := ⟨(bring tv n).toNat, by omega⟩
                rw [hbi] at HBR hbr
                have HBI : Hid (bi < n) := hid (by omega)
                have HKT := hid hkT
                clear hbi hbr hw
                go_wp2_with fail
                with_reducible refine HBR.out.mono ?_
                rintro e w4 ⟨rfl, rfl⟩
                go_wp2_with fail
                go_meet
                exact ⟨bi, rfl, HBI.out, fun h => absurd HKT.out h, rfl⟩
              · go_wp2_with fail
                go_meet
                exact ⟨i0, rfl, HI0.out.1, fun _ => HI0.out.2, rfl⟩
            case rest =>
              obtain ⟨i, rfl, hin, hiT, hwc⟩ := hcut
              subst hwc
              have HIN := hid hin
              have HIT := hid hiT
              have hiN : i < N := by
                have h1 := HNN.out
                by_cases e : N = 0
                · exfalso
                  have h2 := sumN_out (ls := ls) (m := n) (by rw [← HNL.out, e]; exact Nat.zero_le _)
                  rw [← HNL.out, e] at h2
                  have h3 : sumN 0 (capL ls) = 0 := rfl
                  have h4 := HLF.out
                  have h5 := HLP.out
                  omega
                · omega
              have hi9 : i < 9 := by have := HNN.out; omega
              obtain ⟨h64, b, off, u, hao, hbw, hcu, hvu⟩ := HLL.out.at i (by rw [← HNL.out]; exact hiN)
              subst hao
              obtain ⟨uo, uc, rfl, hul1, hul2, hul3, hul4⟩ := id hvu
              have H64 := hid h64
              have HU4 := hid hul4
              obtain ⟨av, hav⟩ : ∃ av, av = at_ i := ⟨_, rfl⟩
              obtain ⟨ul, hul⟩ : ∃ ul, ul = (ls.getD i []).length := ⟨_, rfl⟩
              rw [← hul] at hcu hul1
              have HUL2 : Hid (capL ls i = min ul 40) := hid (by rw [hul]; rfl)
              have HULL := hid hul
              have HAV := hid hav
              have HI9 := hid hi9
              have HZ0 : Hid (w0.heap.size ≤ zs) := hid (by have h1 := HF0.out.size; have h2 := HZZ.out; omega)
              have PS : Hid (∀ W, Fr (fun x => x = zs) wr W → W.cell? ⟨za, i, none⟩ = some (.int .i64 (av : Int)) ∧ W.cell? ⟨b, off + i, none⟩ = some (.slice uo ul uc)) := hid (fun W f => ⟨by
                rw [HAV.out]
                exact (HBA.out.keep f HZZ.out.2.2).cell i (arr9_at (fun s => ((at_ s : Nat) : Int)) HI9.out), cell_fr (HF0w.out.into f HZ0.out) hcu⟩)
              have hiNi : (i : Int) < (N : Int) := by omega
              have hi9i : (i : Int) < 9 := by omega
              have e1 : decide ((N : Int) ≤ (i : Int)) = false := decide_eq_false (by omega)
              have e1n : decide (N ≤ i) = false := decide_eq_false (by omega)
              have HIX := hid (And.intro hiNi hi9i)
              have hul99 : (ul : Int) ≤ 9223372036854775807 := by unfold maxLen at hul2; omega
              clear hin hiT hl0 hiN hi9 hbw hcu hvu hul hav h64 hul1 hul2 hul3 hul4
              have f0 : Fr (fun _ => False) wr wr.drew := (Fr.refl _ _).drew
              have f0z : Fr (fun x => x = zs) wr wr.drew := (Fr.refl _ _).drew
              by_cases hc1 : av < ul
              · have e2 : decide ((ul : Int) ≤ (av : Int)) = false := decide_eq_false (by omega)
                have e2n : decide (ul ≤ av) = false := decide_eq_false (by omega)
                by_cases hc2 : av < 40
                · have e3 : decide ((40 : Int) ≤ (av : Int)) = false := decide_eq_false (by omega)
                  have e3n : decide (40 ≤ av) = false := decide_eq_false (by omega)
                  have HC := hid (And.intro hc1 hc2)
                  go_wp2_with fail
                  refine wp_region_held_drew (S := fun W => W.cell? ⟨za, i, none⟩ = some (.int .i64 (av : Int)) ∧ W.cell? ⟨b, off + i, none⟩ = some (.slice uo ul uc)) (by kernel_rfl) (PS.out _ f0z) (fun hHeld => ?_)
                  refine wpAnyH_take (i := 0) (v := ?_) rfl (by kernel_rfl) (by kernel_rfl) (by kernel_rfl) (fun _ _ _ h => h) (Or.inl ⟨by rfl, ?_⟩) hHeld ?_
                  rotate_left 1
                  · (intro w hSw; (try dsimp only at hSw); go_simp <;> with_reducible rfl)
                  try simp only [Act.put, List.setIfInBounds_toArray, List.set_cons_zero, List.set_cons_succ, List.getElem_toArray, List.getElem_cons_succ, List.getElem_cons_zero]
                  refine wpAnyH_take (i := 1) (v := ?_) rfl (by kernel_rfl) (by kernel_rfl) (by kernel_rfl) (fun _ _ _ h => h) (Or.inl ⟨by rfl, ?_⟩) hHeld ?_
                  rotate_left 1
                  · (intro w hSw; (try dsimp only at hSw); go_simp <;> with_reducible rfl)
                  try simp only [Act.put, List.setIfInBounds_toArray, List.set_cons_zero, List.set_cons_succ, List.getElem_toArray, List.getElem_cons_succ, List.getElem_cons_zero]
                  refine wpAnyH_take (i := 2) (v := ?_) rfl (by kernel_rfl) (by kernel_rfl) (by kernel_rfl) (fun _ _ _ h => h) (Or.inl ⟨by rfl, ?_⟩) hHeld ?_
                  rotate_left 1
                  · (intro w hSw; (try dsimp only at hSw); go_simp <;> with_reducible rfl)
                  try simp only [Act.put, List.setIfInBounds_toArray, List.set_cons_zero, List.set_cons_succ, List.getElem_toArray, List.getElem_cons_succ, List.getElem_cons_zero]
                  refine wpAnyH_take (i := 3) (v := ?_) rfl (by kernel_rfl) (by kernel_rfl) (by kernel_rfl) (fun _ _ _ h => h) (Or.inl ⟨by rfl, ?_⟩) hHeld ?_
                  rotate_left 1
                  · (intro w hSw; (try dsimp only at hSw); go_simp <;> with_reducible rfl)
                  try simp only [Act.put, List.setIfInBounds_toArray, List.set_cons_zero, List.set_cons_succ, List.getElem_toArray, List.getElem_cons_succ, List.getElem_cons_zero]
                  refine wpAnyH_take (i := 4) (v := ?_) rfl (by kernel_rfl) (by kernel_rfl) (by kernel_rfl) (fun _ _ _ h => h) (Or.inl ⟨by rfl, ?_⟩) hHeld ?_
                  rotate_left 1
                  · (intro w hSw; (try dsimp only at hSw); go_simp <;> with_reducible rfl)
                  try simp only [Act.put, List.setIfInBounds_toArray, List.set_cons_zero, List.set_cons_succ, List.getElem_toArray, List.getElem_cons_succ, List.getElem_cons_zero]
                  refine wpAnyH_take (i := 5) (v := ?_) rfl (by kernel_rfl) (by kernel_rfl) (by kernel_rfl) (fun _ _ _ h => h) (Or.inl ⟨by rfl, ?_⟩) hHeld ?_
                  rotate_left 1
                  · (intro w hSw; (try dsimp only at hSw); go_simp <;> with_reducible rfl)
                  try simp only [Act.put, List.setIfInBounds_toArray, List.set_cons_zero, List.set_cons_succ, List.getElem_toArray, List.getElem_cons_succ, List.getElem_cons_zero]
                  refine wpAnyH_take (i := 6) (v := ?_) rfl (by kernel_rfl) (by kernel_rfl) (by kernel_rfl) (fun _ _ _ h => h) (Or.inl ⟨by rfl, ?_⟩) hHeld ?_
                  rotate_left 1
                  · (intro w hSw; (try dsimp only at hSw); go_simp <;> with_reducible rfl)
                  try simp only [Act.put, List.setIfInBounds_toArray, List.set_cons_zero, List.set_cons_succ, List.getElem_toArray, List.getElem_cons_succ, List.getElem_cons_zero]
                  refine wpAnyH_take (i := 7) (v := ?_) rfl (by kernel_rfl) (by kernel_rfl) (by kernel_rfl) (fun _ _ _ h => h) (Or.inl ⟨by rfl, ?_⟩) hHeld ?_
                  rotate_left 1
                  · (intro w hSw; (try dsimp only at hSw); go_simp <;> with_reducible rfl)
                  try simp only [Act.put, List.setIfInBounds_toArray, List.set_cons_zero, List.set_cons_succ, List.getElem_toArray, List.getElem_cons_succ, List.getElem_cons_zero]
                  refine wpAnyH_take (i := 8) (v := ?_) rfl (by kernel_rfl) (by kernel_rfl) (by kernel_rfl) (fun _ _ _ h => h) (Or.inl ⟨by rfl, ?_⟩) hHeld ?_
                  rotate_left 1
                  · (intro w hSw; (try dsimp only at hSw); go_simp <;> with_reducible rfl)
                  try simp only [Act.put, List.setIfInBounds_toArray, List.set_cons_zero, List.set_cons_succ, List.getElem_toArray, List.getElem_cons_succ, List.getElem_cons_zero]
                  refine wpAnyH_take (i := 9) (v := ?_) rfl (by kernel_rfl) (by kernel_rfl) (by kernel_rfl) (fun _ _ _ h => h) (Or.inl ⟨by rfl, ?_⟩) hHeld ?_
                  rotate_left 1
                  · (intro w hSw; (try dsimp only at hSw); go_simp <;> with_reducible rfl)
                  try simp only [Act.put, List.setIfInBounds_toArray, List.set_cons_zero, List.set_cons_succ, List.getElem_toArray, List.getElem_cons_succ, List.getElem_cons_zero]
                  refine wpAnyH_take (i := 10) (v := ?_) rfl (by kernel_rfl) (by kernel_rfl) (by kernel_rfl) (fun _ _ _ h => h) (Or.inl ⟨by rfl, ?_⟩) hHeld ?_
                  rotate_left 1
                  · (intro w hSw; (try dsimp only at hSw); go_simp <;> with_reducible rfl)
                  try simp only [Act.put, List.setIfInBounds_toArray, List.set_cons_zero, List.set_cons_succ, List.getElem_toArray, List.getElem_cons_succ, List.getElem_cons_zero]
                  refine wpAnyH_take (i := 11) (v := ?_) rfl (by kernel_rfl) (by kernel_rfl) (by kernel_rfl) (fun _ _ _ h => h) (Or.inl ⟨by rfl, ?_⟩) hHeld ?_
                  rotate_left 1
                  · (intro w hSw; (try dsimp only at hSw); go_simp <;> with_reducible rfl)
                  try simp only [Act.put, List.setIfInBounds_toArray, List.set_cons_zero, List.set_cons_succ, List.getElem_toArray, List.getElem_cons_succ, List.getElem_cons_zero]
                  refine wpAnyH_take (i := 12) (v := ?_) rfl (by kernel_rfl) (by kernel_rfl) (by kernel_rfl) (fun _ _ _ h => h) (Or.inl ⟨by rfl, ?_⟩) hHeld ?_
                  rotate_left 1
                  · (intro w hSw; (try dsimp only at hSw); go_simp <;> with_reducible rfl)
                  try simp only [Act.put, List.setIfInBounds_toArray, List.set_cons_zero, List.set_cons_succ, List.getElem_toArray, List.getElem_cons_succ, List.getElem_cons_zero]
                  refine wpAnyH_take (i := 13) (v := ?_) rfl (by kernel_rfl) (by kernel_rfl) (by kernel_rfl) (fun _ _ _ h => h) (Or.inl ⟨by rfl, ?_⟩) hHeld ?_
                  rotate_left 1
                  · (intro w hSw; (try dsimp only at hSw); go_simp <;> with_reducible rfl)
                  try simp only [Act.put, List.setIfInBounds_toArray, List.set_cons_zero, List.set_cons_succ, List.getElem_toArray, List.getElem_cons_succ, List.getElem_cons_zero]
                  refine wpAnyH_take (i := 14) (v := ?_) rfl (by kernel_rfl) (by kernel_rfl) (by kernel_rfl) (fun _ _ _ h => h) (Or.inl ⟨by rfl, ?_⟩) hHeld ?_
                  rotate_left 1
                  · (intro w hSw; (try dsimp only at hSw); go_simp <;> with_reducible rfl)
                  try simp only [Act.put, List.setIfInBounds_toArray, List.set_cons_zero, List.set_cons_succ, List.getElem_toArray, List.getElem_cons_succ, List.getElem_cons_zero]
                  refine wpAnyH_take (i := 15) (v := ?_) rfl (by kernel_rfl) (by kernel_rfl) (by kernel_rfl) (fun _ _ _ h => h) (Or.inl ⟨by rfl, ?_⟩) hHeld ?_
                  rotate_left 1
                  · (intro w hSw; (try dsimp only at hSw); go_simp <;> with_reducible rfl)
                  try simp only [Act.put, List.setIfInBounds_toArray, List.set_cons_zero, List.set_cons_succ, List.getElem_toArray, List.getElem_cons_succ, List.getElem_cons_zero]
                  refine wpAnyH_take (i := 16) (v := ?_) rfl (by kernel_rfl) (by kernel_rfl) (by kernel_rfl) (fun _ _ _ h => h) (Or.inl ⟨by rfl, ?_⟩) hHeld ?_
                  rotate_left 1
                  · (intro w hSw; (try dsimp only at hSw); go_simp <;> with_reducible rfl)
                  try simp only [Act.put, List.setIfInBounds_toArray, List.set_cons_zero, List.set_cons_succ, List.getElem_toArray, List.getElem_cons_succ, List.getElem_cons_zero]
                  refine wpAnyH_take (i := 17) (v := ?_) rfl (by kernel_rfl) (by kernel_rfl) (by kernel_rfl) (fun _ _ _ h => h) (Or.inl ⟨by rfl, ?_⟩) hHeld ?_
                  rotate_left 1
                  · (intro w hSw; (try dsimp only at hSw); go_simp <;> with_reducible rfl)
                  try simp only [Act.put, List.setIfInBounds_toArray, List.set_cons_zero, List.set_cons_succ, List.getElem_toArray, List.getElem_cons_succ, List.getElem_cons_zero]
                  refine wpAnyH_take (i := 18) (v := ?_) rfl (by kernel_rfl) (by kernel_rfl) (by kernel_rfl) (fun _ _ _ h => h) (Or.inl ⟨by rfl, ?_⟩) hHeld ?_
                  rotate_left 1
                  · (intro w hSw; (try dsimp only at hSw); go_simp <;> with_reducible rfl)
                  try simp only [Act.put, List.setIfInBounds_toArray, List.set_cons_zero, List.set_cons_succ, List.getElem_toArray, List.getElem_cons_succ, List.getElem_cons_zero]
                  refine wpAnyH_take (i := 19) (v := ?_) rfl (by kernel_rfl) (by kernel_rfl) (by kernel_rfl) (fun _ _ _ h => h) (Or.inl ⟨by rfl, ?_⟩) hHeld ?_
                  rotate_left 1
                  · (intro w hSw; (try dsimp only at hSw); go_simp <;> with_reducible rfl)
                  try simp only [Act.put, List.setIfInBounds_toArray, List.set_cons_zero, List.set_cons_succ, List.getElem_toArray, List.getElem_cons_succ, List.getElem_cons_zero]
                  refine wpAnyH_take (i := 20) (v := ?_) rfl (by kernel_rfl) (by kernel_rfl) (by kernel_rfl) (fun _ _ _ h => h) (Or.inl ⟨by rfl, ?_⟩) hHeld ?_
                  rotate_left 1
                  · (intro w hSw; (try dsimp only at hSw); go_simp <;> with_reducible rfl)
                  try simp only [Act.put, List.setIfInBounds_toArray, List.set_cons_zero, List.set_cons_succ, List.getElem_toArray, List.getElem_cons_succ, List.getElem_cons_zero]
                  refine wpAnyH_done (by kernel_rfl) ?_ _
                  clear hHeld
                  go_upto_region 15 with (fail)
                  have HMq := hid (HMw.out.keep0 f0)
                  have HBAq := hid (HBA.out.keep f0 (fun h => h))
                  have HBSq := hid (HBS.out.keep f0 (fun h => h))
                  have HRq := hid (row_keep HR.out f0 (fun _ _ h => h))
                  have HFq := hid (HFr.out.trans (f0.mono (fun _ _ h => h.elim)))
                  have HF0q := hid (HF0w.out.trans f0)
                  have PSq : Hid (∀ W, Fr (fun x => x = zs) wr.drew W → W.cell? ⟨za, i, none⟩ = some (.int .i64 (av : Int)) ∧ W.cell? ⟨b, off + i, none⟩ = some (.slice uo ul uc)) := hid (fun W f => PS.out W (f0z.trans f))
                  generalize wr.drew = wq at *
                  clear PS f0 f0z e1 e1n e2 e2n e3 e3n HMw HBA HBS HR HFr hc1 hc2
                  obtain ⟨eb, eo, huo, heb, hce⟩ := HU4.out av (by rw [← HULL.out]; exact HC.out.1)
                  subst huo
                  have hev := H64.out ((ls.getD i []).getD av 0) (getD_mem (by rw [← HULL.out]; exact HC.out.1))
                  have HSN : Hid (sumS (rowL ls i) (av + 1) = sumS (rowL ls i) av + 1 + bring ((ls.getD i []).getD av 0) 20) := hid rfl
                  generalize (ls.getD i []).getD av 0 = ev at *
                  have PE : Hid (∀ W, Fr (fun x => x = zs) wq W → W.cell? ⟨za, i, none⟩ = some (.int .i64 (av : Int)) ∧ W.cell? ⟨b, off + i, none⟩ = some (.slice (some ⟨eb, eo, none⟩) ul uc) ∧ W.cell? ⟨eb, eo + av, none⟩ = some (.int .i64 ev)) := hid (fun W f => ⟨(PSq.out W f).1, (PSq.out W f).2, cell_fr (HF0q.out.into f HZ0.out) hce⟩)
                  have HBR := hid (fun W => bring_any ev 20 W hev.1 hev.2 (by decide) (by decide))
                  have hbr := bring_bd ev 20 (by decide)
                  generalize bring ev 20 = br at *
                  have hsx := sumS_bd (rowL ls i) av
                  have HSX := hid hsx
                  have czs : wq.cell? ⟨zs, i, none⟩ = some (.int .i64 (sumS (rowL ls i) av)) := by
                    have h := HBSq.out.cell i (arr9_at (fun s => sumS (rowL ls s) (at_ s)) HI9.out)
                    rw [HAV.out]; exact h
                  have yzs := HBSq.out.free i
                  obtain ⟨sx, hsxe⟩ : ∃ sx, sx = sumS (rowL ls i) av := ⟨_, rfl⟩
                  rw [← hsxe] at czs hsx HSN HSX
                  have HSXE := hid hsxe
                  have hc40 : av < 40 := HC.out.2
                  obtain ⟨sx1, hsx1⟩ : ∃ sx1, sx1 = sx + 1 := ⟨_, rfl⟩
                  obtain ⟨sn, hsn⟩ : ∃ sn, sn = sx1 + br := ⟨_, rfl⟩
                  have hw1 : IntKind.i64.wrap (sx + 1) = sx1 := by rw [hsx1]; exact IntWalk.i64_in _ (by omega)
                  have hw2 : IntKind.i64.wrap (sx1 + br) = sn := by rw [hsn]; exact IntWalk.i64_in _ (by omega)
                  have HSNE : Hid (sumS (rowL ls i) (av + 1) = sn ∧ 0 ≤ sn ∧ sn ≤ 820) := hid ⟨by rw [HSN.out, hsn, hsx1], by omega, by omega⟩
                  have hav9 : (av : Int) < (ul : Int) := by have := HC.out.1; omega
                  have hiNi2 := HIX.out.1
                  have hi9i2 := HIX.out.2
                  clear hsxe hsx1 hsn hbr hsx hev hce heb PSq hc40 HSN
                  refine wp_region_held_drew (S := fun W => W.cell? ⟨za, i, none⟩ = some (.int .i64 (av : Int)) ∧ W.cell? ⟨b, off + i, none⟩ = some (.slice (some ⟨eb, eo, none⟩) ul uc) ∧ W.cell? ⟨eb, eo + av, none⟩ = some (.int .i64 ev)) (by kernel_rfl) (PE.out _ ((Fr.refl _ _).drew)) (fun hHeld => ?_)
                  refine wpAnyH_take (i := 0) (v := ?_) rfl (by kernel_rfl) (by kernel_rfl) (by kernel_rfl) (fun _ _ _ h => h) (Or.inl ⟨by rfl, ?_⟩) hHeld ?_
                  rotate_left 1
                  · (intro w hSw; (try dsimp only at hSw); go_simp <;> with_reducible rfl)
                  try simp only [Act.put, List.setIfInBounds_toArray, List.set_cons_zero, List.set_cons_succ, List.getElem_toArray, List.getElem_cons_succ, List.getElem_cons_zero]
                  refine wpAnyH_take (i := 1) (v := ?_) rfl (by kernel_rfl) (by kernel_rfl) (by kernel_rfl) (fun _ _ _ h => h) (Or.inl ⟨by rfl, ?_⟩) hHeld ?_
                  rotate_left 1
                  · (intro w hSw; (try dsimp only at hSw); go_simp <;> with_reducible rfl)
                  try simp only [Act.put, List.setIfInBounds_toArray, List.set_cons_zero, List.set_cons_succ, List.getElem_toArray, List.getElem_cons_succ, List.getElem_cons_zero]
                  refine wpAnyH_take (i := 2) (v := ?_) rfl (by kernel_rfl) (by kernel_rfl) (by kernel_rfl) (fun _ _ _ h => h) (Or.inl ⟨by rfl, ?_⟩) hHeld ?_
                  rotate_left 1
                  · (intro w hSw; (try dsimp only at hSw); go_simp <;> with_reducible rfl)
                  try simp only [Act.put, List.setIfInBounds_toArray, List.set_cons_zero, List.set_cons_succ, List.getElem_toArray, List.getElem_cons_succ, List.getElem_cons_zero]
                  refine wpAnyH_take (i := 5) (v := ?_) rfl (by kernel_rfl) (by kernel_rfl) (by kernel_rfl) (fun _ _ _ h => h) (Or.inl ⟨by rfl, ?_⟩) hHeld ?_
                  rotate_left 1
                  · (intro w hSw; (try dsimp only at hSw); go_simp <;> with_reducible rfl)
                  try simp only [Act.put, List.setIfInBounds_toArray, List.set_cons_zero, List.set_cons_succ, List.getElem_toArray, List.getElem_cons_succ, List.getElem_cons_zero]
                  refine wpAnyH_take (i := 6) (v := ?_) rfl (by kernel_rfl) (by kernel_rfl) (by kernel_rfl) (fun _ _ _ h => h) (Or.inl ⟨by rfl, ?_⟩) hHeld ?_
                  rotate_left 1
                  · (intro w hSw; (try dsimp only at hSw); go_simp <;> with_reducible rfl)
                  try simp only [Act.put, List.setIfInBounds_toArray, List.set_cons_zero, List.set_cons_succ, List.getElem_toArray, List.getElem_cons_succ, List.getElem_cons_zero]
                  refine wpAnyH_take (i := 7) (v := ?_) rfl (by kernel_rfl) (by kernel_rfl) (by kernel_rfl) (fun _ _ _ h => h) (Or.inl ⟨by rfl, ?_⟩) hHeld ?_
                  rotate_left 1
                  · (intro w hSw; (try dsimp only at hSw); go_simp <;> with_reducible rfl)
                  try simp only [Act.put, List.setIfInBounds_toArray, List.set_cons_zero, List.set_cons_succ, List.getElem_toArray, List.getElem_cons_succ, List.getElem_cons_zero]
                  refine wpAnyH_take (i := 8) (v := ?_) rfl (by kernel_rfl) (by kernel_rfl) (by kernel_rfl) (fun _ _ _ h => h) (Or.inl ⟨by rfl, ?_⟩) hHeld ?_
                  rotate_left 1
                  · (intro w hSw; (try dsimp only at hSw); go_simp <;> with_reducible rfl)
                  try simp only [Act.put, List.setIfInBounds_toArray, List.set_cons_zero, List.set_cons_succ, List.getElem_toArray, List.getElem_cons_succ, List.getElem_cons_zero]
                  refine wpAnyH_take (i := 9) (v := ?_) rfl (by kernel_rfl) (by kernel_rfl) (by kernel_rfl) (fun _ _ _ h => h) (Or.inl ⟨by rfl, ?_⟩) hHeld ?_
                  rotate_left 1
                  · (intro w hSw; (try dsimp only at hSw); go_simp <;> with_reducible rfl)
                  try simp only [Act.put, List.setIfInBounds_toArray, List.set_cons_zero, List.set_cons_succ, List.getElem_toArray, List.getElem_cons_succ, List.getElem_cons_zero]
                  refine wpAnyH_take (i := 10) (v := ?_) rfl (by kernel_rfl) (by kernel_rfl) (by kernel_rfl) (fun _ _ _ h => h) (Or.inl ⟨by rfl, ?_⟩) hHeld ?_
                  rotate_left 1
                  · (intro w hSw; (try dsimp only at hSw); go_simp <;> with_reducible rfl)
                  try simp only [Act.put, List.setIfInBounds_toArray, List.set_cons_zero, List.set_cons_succ, List.getElem_toArray, List.getElem_cons_succ, List.getElem_cons_zero]
                  refine wpAnyH_take (i := 11) (v := ?_) rfl (by kernel_rfl) (by kernel_rfl) (by kernel_rfl) (fun _ _ _ h => h) (Or.inl ⟨by rfl, ?_⟩) hHeld ?_
                  rotate_left 1
                  · (intro w hSw; (try dsimp only at hSw); go_simp <;> with_reducible rfl)
                  try simp only [Act.put, List.setIfInBounds_toArray, List.set_cons_zero, List.set_cons_succ, List.getElem_toArray, List.getElem_cons_succ, List.getElem_cons_zero]
                  refine wpAnyH_take (i := 12) (v := ?_) rfl (by kernel_rfl) (by kernel_rfl) (by kernel_rfl) (fun _ _ _ h => h) (Or.inl ⟨by rfl, ?_⟩) hHeld ?_
                  rotate_left 1
                  · (intro w hSw; (try dsimp only at hSw); go_simp <;> with_reducible rfl)
                  try simp only [Act.put, List.setIfInBounds_toArray, List.set_cons_zero, List.set_cons_succ, List.getElem_toArray, List.getElem_cons_succ, List.getElem_cons_zero]
                  refine wpAnyH_take (i := 13) (v := ?_) rfl (by kernel_rfl) (by kernel_rfl) (by kernel_rfl) (fun _ _ _ h => h) (Or.inl ⟨by rfl, ?_⟩) hHeld ?_
                  rotate_left 1
                  · (intro w hSw; (try dsimp only at hSw); go_simp <;> with_reducible rfl)
                  try simp only [Act.put, List.setIfInBounds_toArray, List.set_cons_zero, List.set_cons_succ, List.getElem_toArray, List.getElem_cons_succ, List.getElem_cons_zero]
                  apply forkP
                  · intro key
                    refine wpAnyH_ready (rs := [3, 14]) (by kernel_rfl) (by simp) ?_
                    refine AllReadyH.cons rfl (fun K hK => ?_) (AllReadyH.cons rfl (fun K hK => ?_) (AllReadyH.nil))
                    skip
                    · skip
                      have c1 : wq.drew.cell? ⟨zs, i, none⟩ = some (.int .i64 sx) := czs
                      go_simp
                      clear c1
                      refine hK.out _ _ (PE.out _ ((Fr.refl _ _).drew)) (fun hHeld => ?_)
                      clear hK K
                      try simp only [Act.put, List.setIfInBounds_toArray, List.set_cons_zero, List.set_cons_succ, List.getElem_toArray, List.getElem_cons_succ, List.getElem_cons_zero]
                      refine wpAnyH_take (i := 4) (v := ?_) rfl (by kernel_rfl) (by kernel_rfl) (by kernel_rfl) (fun _ _ _ h => h) (Or.inl ⟨by rfl, ?_⟩) hHeld ?_
                      rotate_left 1
                      · (intro w hSw; (try dsimp only at hSw); go_simp <;> with_reducible rfl)
                      try simp only [Act.put, List.setIfInBounds_toArray, List.set_cons_zero, List.set_cons_succ, List.getElem_toArray, List.getElem_cons_succ, List.getElem_cons_zero]
                      refine wpAnyH_ready (rs := [14]) (by kernel_rfl) (by simp) ?_
                      refine AllReadyH.cons rfl (fun K hK => ?_) (AllReadyH.nil)
                      skip
                      go_simp
                      go_at_call 26
                      refine (HBR.out _).mono ?_
                      rintro e w5 ⟨rfl, rfl⟩
                      refine hK.out _ _ (PE.out _ ((Fr.refl _ _).drew)) (fun hHeld => ?_)
                      clear hK K
                      try simp only [Act.put, List.setIfInBounds_toArray, List.set_cons_zero, List.set_cons_succ, List.getElem_toArray, List.getElem_cons_succ, List.getElem_cons_zero]
                      refine wpAnyH_relist (l' := #[true, true, true, true, true, true, true, true, true, true, true, true, true, true, true, false, false, false]) (by kernel_rfl) ?_
                      exact key trivial
                    · skip
                      go_simp
                      go_at_call 26
                      refine (HBR.out _).mono ?_
                      rintro e w5 ⟨rfl, rfl⟩
                      refine hK.out _ _ (PE.out _ ((Fr.refl _ _).drew)) (fun hHeld => ?_)
                      clear hK K
                      try simp only [Act.put, List.setIfInBounds_toArray, List.set_cons_zero, List.set_cons_succ, List.getElem_toArray, List.getElem_cons_succ, List.getElem_cons_zero]
                      refine wpAnyH_ready (rs := [3]) (by kernel_rfl) (by simp) ?_
                      refine AllReadyH.cons rfl (fun K hK => ?_) (AllReadyH.nil)
                      skip
                      have c1 : wq.drew.cell? ⟨zs, i, none⟩ = some (.int .i64 sx) := czs
                      go_simp
                      clear c1
                      refine hK.out _ _ (PE.out _ ((Fr.refl _ _).drew)) (fun hHeld => ?_)
                      clear hK K
                      try simp only [Act.put, List.setIfInBounds_toArray, List.set_cons_zero, List.set_cons_succ, List.getElem_toArray, List.getElem_cons_succ, List.getElem_cons_zero]
                      refine wpAnyH_take (i := 4) (v := ?_) rfl (by kernel_rfl) (by kernel_rfl) (by kernel_rfl) (fun _ _ _ h => h) (Or.inl ⟨by rfl, ?_⟩) hHeld ?_
                      rotate_left 1
                      · (intro w hSw; (try dsimp only at hSw); go_simp <;> with_reducible rfl)
                      try simp only [Act.put, List.setIfInBounds_toArray, List.set_cons_zero, List.set_cons_succ, List.getElem_toArray, List.getElem_cons_succ, List.getElem_cons_zero]
                      refine wpAnyH_relist (l' := #[true, true, true, true, true, true, true, true, true, true, true, true, true, true, true, false, false, false]) (by kernel_rfl) ?_
                      exact key trivial
                  intro _
                  refine wpAnyH_take (i := 15) (v := ?_) rfl (by kernel_rfl) (by kernel_rfl) (by kernel_rfl) (fun _ _ _ h => h) (Or.inl ⟨by rfl, ?_⟩) hHeld ?_
                  rotate_left 1
                  · (intro w hSw; (try dsimp only at hSw); go_simp <;> with_reducible rfl)
                  try simp only [Act.put, List.setIfInBounds_toArray, List.set_cons_zero, List.set_cons_succ, List.getElem_toArray, List.getElem_cons_succ, List.getElem_cons_zero]
                  refine wpAnyH_take (i := 16) (v := ?_) rfl (by kernel_rfl) (by kernel_rfl) (by kernel_rfl) (fun _ _ _ h => h) (Or.inl ⟨by rfl, ?_⟩) hHeld ?_
                  rotate_left 1
                  · (intro w hSw; (try dsimp only at hSw); go_simp <;> with_reducible rfl)
                  try simp only [Act.put, List.setIfInBounds_toArray, List.set_cons_zero, List.set_cons_succ, List.getElem_toArray, List.getElem_cons_succ, List.getElem_cons_zero]
                  refine wpAnyH_ready (rs := [17]) (by kernel_rfl) (by simp) ?_
                  refine AllReadyH.cons rfl (fun K hK => ?_) (AllReadyH.nil)
                  skip
                  clear hHeld
                  have c1 : wq.drew.cell? ⟨zs, i, none⟩ = some (.int .i64 sx) := czs
                  have y1 : wq.drew.frozen? ⟨zs, i, none⟩ = false := yzs
                  go_simp
                  refine hK.out _ _ (PE.out _ ((Fr.refl _ _).drew.trans ((Fr.refl _ wq.drew).set1 i _))) (fun hHeld => ?_)
                  clear hK K c1 y1
                  try simp only [Act.put, List.setIfInBounds_toArray, List.set_cons_zero, List.set_cons_succ, List.getElem_toArray, List.getElem_cons_succ, List.getElem_cons_zero]
                  refine wpAnyH_done (by kernel_rfl) ?_ _
                  clear hHeld
                  have f5 : Fr (fun x => x = zs) wq (wq.setCell ⟨zs, i, none⟩ (.int .i64 sn)).drew := ((Fr.refl _ wq).set1 i _).drew
                  have HBS5 : Hid (Blk (wq.setCell ⟨zs, i, none⟩ (.int .i64 sn)).drew zs (arr9 (set1 (fun s => sumS (rowL ls s) (at_ s)) i sn)) 77) := hid ((HBSq.out.set' i _ (arr9_set _ HI9.out sn)).drew)
                  have HBA5 := hid (HBAq.out.keep f5 HZZ.out.2.2)
                  have HM5 := hid (HMq.out.keep f5 (fun b hb e => HGP.out.s (e ▸ hb)))
                  have HR5 := hid (row_keep HRq.out f5 (fun b hb e => by
                    obtain ⟨cs, k⟩ := row_type HRq.out hb
                    exact absurd ((e ▸ k : Blk wq zs cs 3).type HBSq.out) (by decide)))
                  have HF5 : Hid (Fr fp w (wq.setCell ⟨zs, i, none⟩ (.int .i64 sn)).drew) := hid (HFq.out.step f5 (fun b hb e => by have h1 := HZZ.out; omega))
                  have HF05 := hid (HF0q.out.into f5 HZ0.out)
                  generalize (wq.setCell ⟨zs, i, none⟩ (.int .i64 sn)).drew = w5 at *
                  clear f5 czs yzs PE HBR hw1 hw2 HBSq HBAq HMq HRq HFq HF0q
                  have ca : w5.cell? ⟨za, i, none⟩ = some (.int .i64 (av : Int)) := by
                    have h := HBA5.out.cell i (arr9_at (fun s => ((at_ s : Nat) : Int)) HI9.out)
                    rw [HAV.out]; exact h
                  have ya := HBA5.out.free i
                  have hi9n := HI9.out
                  go_upto_region 17 with (fail)
                  have f6 : Fr (fun x => x = za) w5 (w5.setCell ⟨za, i, none⟩ (.int .i64 ((av : Int) + 1))) := (Fr.refl _ w5).set1 i _
                  have HBA6 : Hid (Blk (w5.setCell ⟨za, i, none⟩ (.int .i64 ((av : Int) + 1))) za (arr9 (set1 (fun s => ((at_ s : Nat) : Int)) i ((av : Int) + 1))) 77) := hid (HBA5.out.set' i _ (arr9_set _ HI9.out _))
                  have HBS6 := hid (HBS5.out.keep f6 (fun e => HZZ.out.2.2 e.symm))
                  have HM6 := hid (HM5.out.keep f6 (fun b hb e => HGP.out.a (e ▸ hb)))
                  have HR6 := hid (row_keep HR5.out f6 (fun b hb e => by
                    obtain ⟨cs, k⟩ := row_type HR5.out hb
                    exact absurd ((e ▸ k : Blk w5 za cs 3).type HBA5.out) (by decide)))
                  have HF6 : Hid (Fr fp w (w5.setCell ⟨za, i, none⟩ (.int .i64 ((av : Int) + 1)))) := hid (HF5.out.step f6 (fun b hb e => by have h1 := HZZ.out; omega))
                  have HF06 := hid (HF05.out.into f6 (by have h1 := HZZ.out; have h2 := HF0.out.size; omega))
                  generalize w5.setCell ⟨za, i, none⟩ (.int .i64 ((av : Int) + 1)) = w6 at *
                  clear f6 ca ya HBA5 HBS5 HM5 HR5 HF5 HF05
                  have cs6 : w6.cell? ⟨zs, i, none⟩ = some (.int .i64 sn) := by
                    have h := HBS6.out.cell i (arr9_at _ HI9.out)
                    rw [set1_at] at h; exact h
                  have HCC : Hid (at_ i < capL ls i) := hid (by rw [HUL2.out, ← HAV.out]; have := HC.out; omega)
                  obtain ⟨q1, q2, q3, q4⟩ := HTI.out.fresh HIN.out HCC.out
                  have HTP := hid (HTI.out.put HIN.out HCC.out)
                  have HMP := hid (mu_put HTI.out (T := TT) (k := k) HNN.out.2.1 HIN.out HCC.out)
                  obtain ⟨p1, p2, _⟩ := HTI.out.ni.put HIN.out q2 q3 (by omega) q1
                  have hav2 := HAV.out
                  rw [← hav2] at q1 q2 q3 q4 HTP HMP p1 p2
                  have hstA : stA (rowL ls i) i (av + 1) = 9 * sn + i := by unfold stA; rw [HSNE.out.1]
                  rw [hstA] at q1 q2 q3 q4 HTP p1 p2
                  obtain ⟨a, ha⟩ : ∃ a, a = 9 * sn + (i : Int) := ⟨_, rfl⟩
                  rw [← ha] at q1 q2 q3 q4 HTP p1 p2
                  have hwa : wrap64 (9 * sn + (i : Int)) = a := by rw [ha]; exact w64d (by omega) (by omega)
                  have HWA : Hid (wrap64 (wrap64 (9 * sn) + (i : Int)) = a) := hid (by have := HSNE.out.2; rw [w64d (x := 9 * sn) (by omega) (by omega)]; exact hwa)
                  have HAA : Hid (stA (rowL ls i) i (av + 1) = a) := hid (by rw [hstA, ha])
                  have HP1 := hid p1
                  have HP2 := hid p2
                  clear q1 q2 q3 q4 p1 p2 hav2 hstA ha hwa
                  go_upto_region 18 with (fail)
                  have HLW : Hid (wrap64 ((lfN : Int) - 1) = ((sumN n (capL ls) - sumN n (set1 at_ i (av + 1)) : Nat) : Int)) := hid (by
                    have h1 := sumN_set HIN.out at_ (av + 1)
                    rw [← HAV.out] at h1
                    have h2 := HLF.out
                    have h3 := HLP.out
                    have h4 := HUL.out
                    rw [w64d (by omega) (by omega)]
                    omega)
                  generalize wrap64 ((lfN : Int) - 1) = lfV at *
                  have HCT : Hid (cntS (isP n f L) < 100000) := hid (by
                    rw [cnt_isP HNN.out.2.1]
                    have h1 := HTI.out.len
                    have h2 := HLF.out
                    have h3 := cap_bd ls n
                    have h4 := HNN.out
                    omega)
                  have HKW : Hid (wrap64 ((k : Int) + 1) = ((k + 1 : Nat) : Int)) := hid (by have h1 := HKG.out; have h2 := HMU.out; have h3 := HTB.out; rw [w64d (by omega) (by omega)]; omega)
                  clear hul99 hiNi hi9i hav9 hiNi2 hi9i2
                  go_wp2_with fail
                  generalize wrap64 (wrap64 (9 * sn) + (i : Int)) = a2 at *
                  have haa : a2 = a := HWA.out
                  subst haa
                  with_reducible refine (HON.out a2 _).mono ?_
                  rintro e w7 ⟨rfl, f7⟩
                  have HPU := hid (put_o (i : Int) (oneP a2) (.slice none 0 0) (HM6.out.keep0 f7) (one_body _) HCT.out)
                  rw [HP1.out, HP2.out, oneP_a] at HPU
                  have HBA7 := hid (HBA6.out.keep f7 (fun h => h))
                  have HBS7 := hid (HBS6.out.keep f7 (fun h => h))
                  have HR7 := hid (row_keep HR6.out f7 (fun _ _ h => h))
                  have HF7 := hid (HF6.out.trans (f7.mono (fun _ _ h => h.elim)))
                  have HF07 := hid (HF06.out.trans f7)
                  clear f7 cs6 HM6 HBA6 HBS6 HR6 HF6 HF06
                  go_wp2_with fail
                  with_reducible refine HPU.out.mono ?_
                  rintro e w8 ⟨rfl, o8, f8⟩
                  have HM8 := hid o8
                  have HGP8 := hid (HGP.out.more (W' := w8) HF7.out.size HBA7.out.lt HBS7.out.lt)
                  have HBA8 := hid (HBA7.out.keep f8 HGP.out.a)
                  have HBS8 := hid (HBS7.out.keep f8 HGP.out.s)
                  have HR8 := hid (row_keep HR7.out f8 (fun b hb e => HNG.out b hb e))
                  have HNG8 : Hid (∀ b, b ∈ footOf u12 → ¬ fpN gp w7 w8 b) := hid (fun b hb hx => by
                    rcases hx with hx | hx
                    · exact HNG.out b hb hx
                    · have := row_live HR7.out b hb; omega)
                  have HF8 : Hid (Fr fp w w8) := hid (HF7.out.step f8 (fun b hb hx => by
                    rcases HGP.out.own b hx with h | h
                    · exact h
                    · omega))
                  have HF08 : Hid (Fr (fun _ => False) w0 w8) := hid (HF07.out.step f8 (fun b hb hx => by
                    have h2 := HF0.out.size
                    rcases HGP.out.own b hx with h | h
                    · have := HFP.out b h; omega
                    · omega))
                  have hca := cast_set at_ i (av + 1)
                  rw [show (((av + 1 : Nat)) : Int) = (av : Int) + 1 by omega] at hca
                  have hcs := sum_set ls at_ i (av + 1)
                  rw [HSNE.out.1] at hcs
                  rw [← hca] at HBA8
                  rw [← hcs] at HBS8
                  generalize fpN gp w7 w8 = hp at *
                  generalize set1 at_ i (av + 1) = at8 at *
                  generalize set1 f i a2 = f8' at *
                  generalize set1 L i (L i ++ [a2]) = L8 at *
                  clear o8 f8 HPU HBA7 HBS7 HR7 HF7 HF07 hca hcs HP1 HP2
                  obtain ⟨r3, hr3⟩ : ∃ r3, r3 = k % 3 := ⟨_, rfl⟩
                  have ht3 : Int.tmod (k : Int) 3 = (r3 : Int) := by rw [hr3]; rfl
                  clear hr3
                  by_cases h30 : r3 = 0
                  · have hb3 : ((r3 : Int) == 0) = true := by simp [h30]
                    have hd3 : decide ((r3 : Int) = 0) = true := by simp [h30]
                    clear h30
                    go_upto_region 22 with (fail)
                    clear hb3 hd3 ht3
                    have HCT8 : Hid (cntS (isP n f8' L8) < 100000) := hid (by
                      rw [cnt_isP HNN.out.2.1]
                      have h1 := HTP.out.len
                      have h2 := sumN_le HTP.out.cap
                      have h3 := cap_bd ls n
                      have h4 := HNN.out
                      omega)
                    go_wp2_with fail
                    with_reducible refine (take_o HM8.out HCT8.out).mono ?_
                    rintro e w9 ⟨v9, out, S9, la9, rfl, t9, o9, i9, n9, _, f9⟩
                    obtain ⟨L9, l9, O9, rfl, rfl, hO, HTI9', _⟩ := HTP.out.told t9
                    have hlen9 : out.length = O9.length := by have := congrArg List.length hO; rw [List.length_map, List.length_map] at this; exact this
                    have hO9l : O.length + O9.length ≤ 400 := by
                      have h1 := HTI9'.len
                      have h2 := sumN_le HTI9'.cap
                      have h3 := cap_bd ls n
                      have h4 := HNN.out
                      rw [List.length_append] at h1
                      omega
                    have HST := hid (stamps_any v9 out _ i9 (by omega))
                    rw [show (out.map fun x => Value.int .i64 x.x.k.s) = O9.map (.int .i64) from by
                      have h := congrArg (List.map fun x : PI => Value.int .i64 x.k.s) hO
                      rw [List.map_map, List.map_map] at h
                      exact h, hlen9] at HST
                    obtain ⟨a9, p9, hv9⟩ := i9.1.shape
                    subst hv9
                    have HM9 := hid o9
                    have HTI9 := hid HTI9'
                    have HBA9 := hid (HBA8.out.keep f9 HGP8.out.a)
                    have HBS9 := hid (HBS8.out.keep f9 HGP8.out.s)
                    have HR9 := hid (row_keep HR8.out f9 (fun b hb e => HNG8.out b hb e))
                    have HF9 : Hid (Fr fp w w9) := hid (HF8.out.step f9 (fun b hb hx => by
                      rcases HGP8.out.own b hx with h | h
                      · exact h
                      · omega))
                    have HF09 : Hid (Fr (fun _ => False) w0 w9) := hid (HF08.out.step f9 (fun b hb hx => by
                      have h2 := HF0.out.size
                      rcases HGP8.out.own b hx with h | h
                      · have := HFP.out b h; omega
                      · omega))
                    have HOL := hid hO9l
                    generalize out.length = nO at *
                    clear t9 o9 i9 n9 f9 hO HTI9' hlen9 hO9l
                    go_wp2_with fail
                    with_reducible refine HST.out.mono ?_
                    rintro e wA ⟨uA, rfl, rA, nA, fA⟩
                    have HRA := hid rA
                    have HRO := hid (row_keep HR9.out fA (fun _ _ h => h))
                    have HMA := hid (HM9.out.keep0 fA)
                    have HBAA := hid (HBA9.out.keep fA (fun h => h))
                    have HBSA := hid (HBS9.out.keep fA (fun h => h))
                    have HFA := hid (HF9.out.trans (fA.mono (fun _ _ h => h.elim)))
                    have HF0A := hid (HF09.out.trans fA)
                    clear rA nA fA HST HM9 HBA9 HBS9 HR9 HF9 HF09
                    go_wp2_with (at_builtin; refine wpList_append_ints rfl _ _ rfl _ O O9 rfl HRO.out _ rfl HRA.out (by have := HOL.out; omega) ?_)
                    intro v' wB rB fB gB
                    have HRB := hid rB
                    have HABB : Hid (Above w.heap.size (footOf v')) := hid (fun b hb => by
                      rcases gB b hb with h | h
                      · exact HAB.out b h
                      · have := HFA.out.size; omega)
                    have HNGB : Hid (∀ b, b ∈ footOf v' → ¬ hp b) := hid (fun b hb hx => by
                      rcases gB b hb with h | h
                      · exact HNG8.out b h hx
                      · have := HMA.out.live b hx; omega)
                    have HMB := hid (HMA.out.keep fB (fun b hb hx => HNG8.out b hx hb))
                    have HBAB := hid (HBAA.out.keep_row HRO.out (by decide) fB)
                    have HBSB := hid (HBSA.out.keep_row HRO.out (by decide) fB)
                    have HFB : Hid (Fr fp w wB) := hid (HFA.out.step fB (fun b hb hx => by have := HAB.out b hx; omega))
                    clear rB fB gB
                    go_wp2_with fail
                    go_roundg (muT ls TT n (k + 1) at8)
                    case rel => exact ⟨k + 1, at8, f8', L9, l9, O ++ O9, hp, rfl, by have h1 := HKG.out; have h2 := HMP.out; have h3 := HG.out; omega, by rw [HKW.out], by rw [HLW.out], HTI9.out, HMB.out, HGP8.out, HBAB.out, HBSB.out, by rw [List.length_append, List.map_append]; exact HRB.out, HABB.out, HNGB.out, HFB.out⟩
                    case measure => have h2 := HMP.out; have h3 := HG.out; omega
                  · have hb3 : ((r3 : Int) == 0) = false := by simp [h30]
                    have hd3 : decide ((r3 : Int) = 0) = false := by simp [h30]
                    clear h30
                    go_wp2_with fail
                    go_roundg (muT ls TT n (k + 1) at8)
                    case rel => exact ⟨k + 1, at8, f8', L8, l0, O, hp, rfl, by have h1 := HKG.out; have h2 := HMP.out; have h3 := HG.out; omega, by rw [HKW.out], by rw [HLW.out], HTP.out, HM8.out, HGP8.out, HBA8.out, HBS8.out, HR8.out, HAB.out, HNG8.out, HF8.out⟩
                    case measure => have h2 := HMP.out; have h3 := HG.out; omega
                · have e3 : decide ((40 : Int) ≤ (av : Int)) = true := decide_eq_true (by omega)
                  have e3n : decide (40 ≤ av) = true := decide_eq_true (by omega)
                  have HNC : Hid (¬ at_ i < capL ls i) := hid (by rw [HUL2.out, ← HAV.out]; omega)
                  go_wp2_with fail
                  refine wp_region_held_drew (S := fun W => W.cell? ⟨za, i, none⟩ = some (.int .i64 (av : Int)) ∧ W.cell? ⟨b, off + i, none⟩ = some (.slice uo ul uc)) (by kernel_rfl) (PS.out _ f0z) (fun hHeld => ?_)
                  refine wpAnyH_take (i := 0) (v := ?_) rfl (by kernel_rfl) (by kernel_rfl) (by kernel_rfl) (fun _ _ _ h => h) (Or.inl ⟨by rfl, ?_⟩) hHeld ?_
                  rotate_left 1
                  · (intro w hSw; (try dsimp only at hSw); go_simp <;> with_reducible rfl)
                  try simp only [Act.put, List.setIfInBounds_toArray, List.set_cons_zero, List.set_cons_succ, List.getElem_toArray, List.getElem_cons_succ, List.getElem_cons_zero]
                  refine wpAnyH_take (i := 1) (v := ?_) rfl (by kernel_rfl) (by kernel_rfl) (by kernel_rfl) (fun _ _ _ h => h) (Or.inl ⟨by rfl, ?_⟩) hHeld ?_
                  rotate_left 1
                  · (intro w hSw; (try dsimp only at hSw); go_simp <;> with_reducible rfl)
                  try simp only [Act.put, List.setIfInBounds_toArray, List.set_cons_zero, List.set_cons_succ, List.getElem_toArray, List.getElem_cons_succ, List.getElem_cons_zero]
                  refine wpAnyH_take (i := 2) (v := ?_) rfl (by kernel_rfl) (by kernel_rfl) (by kernel_rfl) (fun _ _ _ h => h) (Or.inl ⟨by rfl, ?_⟩) hHeld ?_
                  rotate_left 1
                  · (intro w hSw; (try dsimp only at hSw); go_simp <;> with_reducible rfl)
                  try simp only [Act.put, List.setIfInBounds_toArray, List.set_cons_zero, List.set_cons_succ, List.getElem_toArray, List.getElem_cons_succ, List.getElem_cons_zero]
                  refine wpAnyH_take (i := 3) (v := ?_) rfl (by kernel_rfl) (by kernel_rfl) (by kernel_rfl) (fun _ _ _ h => h) (Or.inl ⟨by rfl, ?_⟩) hHeld ?_
                  rotate_left 1
                  · (intro w hSw; (try dsimp only at hSw); go_simp <;> with_reducible rfl)
                  try simp only [Act.put, List.setIfInBounds_toArray, List.set_cons_zero, List.set_cons_succ, List.getElem_toArray, List.getElem_cons_succ, List.getElem_cons_zero]
                  refine wpAnyH_take (i := 4) (v := ?_) rfl (by kernel_rfl) (by kernel_rfl) (by kernel_rfl) (fun _ _ _ h => h) (Or.inl ⟨by rfl, ?_⟩) hHeld ?_
                  rotate_left 1
                  · (intro w hSw; (try dsimp only at hSw); go_simp <;> with_reducible rfl)
                  try simp only [Act.put, List.setIfInBounds_toArray, List.set_cons_zero, List.set_cons_succ, List.getElem_toArray, List.getElem_cons_succ, List.getElem_cons_zero]
                  refine wpAnyH_take (i := 5) (v := ?_) rfl (by kernel_rfl) (by kernel_rfl) (by kernel_rfl) (fun _ _ _ h => h) (Or.inl ⟨by rfl, ?_⟩) hHeld ?_
                  rotate_left 1
                  · (intro w hSw; (try dsimp only at hSw); go_simp <;> with_reducible rfl)
                  try simp only [Act.put, List.setIfInBounds_toArray, List.set_cons_zero, List.set_cons_succ, List.getElem_toArray, List.getElem_cons_succ, List.getElem_cons_zero]
                  refine wpAnyH_take (i := 6) (v := ?_) rfl (by kernel_rfl) (by kernel_rfl) (by kernel_rfl) (fun _ _ _ h => h) (Or.inl ⟨by rfl, ?_⟩) hHeld ?_
                  rotate_left 1
                  · (intro w hSw; (try dsimp only at hSw); go_simp <;> with_reducible rfl)
                  try simp only [Act.put, List.setIfInBounds_toArray, List.set_cons_zero, List.set_cons_succ, List.getElem_toArray, List.getElem_cons_succ, List.getElem_cons_zero]
                  refine wpAnyH_take (i := 7) (v := ?_) rfl (by kernel_rfl) (by kernel_rfl) (by kernel_rfl) (fun _ _ _ h => h) (Or.inl ⟨by rfl, ?_⟩) hHeld ?_
                  rotate_left 1
                  · (intro w hSw; (try dsimp only at hSw); go_simp <;> with_reducible rfl)
                  try simp only [Act.put, List.setIfInBounds_toArray, List.set_cons_zero, List.set_cons_succ, List.getElem_toArray, List.getElem_cons_succ, List.getElem_cons_zero]
                  refine wpAnyH_take (i := 8) (v := ?_) rfl (by kernel_rfl) (by kernel_rfl) (by kernel_rfl) (fun _ _ _ h => h) (Or.inl ⟨by rfl, ?_⟩) hHeld ?_
                  rotate_left 1
                  · (intro w hSw; (try dsimp only at hSw); go_simp <;> with_reducible rfl)
                  try simp only [Act.put, List.setIfInBounds_toArray, List.set_cons_zero, List.set_cons_succ, List.getElem_toArray, List.getElem_cons_succ, List.getElem_cons_zero]
                  refine wpAnyH_take (i := 9) (v := ?_) rfl (by kernel_rfl) (by kernel_rfl) (by kernel_rfl) (fun _ _ _ h => h) (Or.inl ⟨by rfl, ?_⟩) hHeld ?_
                  rotate_left 1
                  · (intro w hSw; (try dsimp only at hSw); go_simp <;> with_reducible rfl)
                  try simp only [Act.put, List.setIfInBounds_toArray, List.set_cons_zero, List.set_cons_succ, List.getElem_toArray, List.getElem_cons_succ, List.getElem_cons_zero]
                  refine wpAnyH_take (i := 10) (v := ?_) rfl (by kernel_rfl) (by kernel_rfl) (by kernel_rfl) (fun _ _ _ h => h) (Or.inl ⟨by rfl, ?_⟩) hHeld ?_
                  rotate_left 1
                  · (intro w hSw; (try dsimp only at hSw); go_simp <;> with_reducible rfl)
                  try simp only [Act.put, List.setIfInBounds_toArray, List.set_cons_zero, List.set_cons_succ, List.getElem_toArray, List.getElem_cons_succ, List.getElem_cons_zero]
                  refine wpAnyH_take (i := 11) (v := ?_) rfl (by kernel_rfl) (by kernel_rfl) (by kernel_rfl) (fun _ _ _ h => h) (Or.inl ⟨by rfl, ?_⟩) hHeld ?_
                  rotate_left 1
                  · (intro w hSw; (try dsimp only at hSw); go_simp <;> with_reducible rfl)
                  try simp only [Act.put, List.setIfInBounds_toArray, List.set_cons_zero, List.set_cons_succ, List.getElem_toArray, List.getElem_cons_succ, List.getElem_cons_zero]
                  refine wpAnyH_take (i := 12) (v := ?_) rfl (by kernel_rfl) (by kernel_rfl) (by kernel_rfl) (fun _ _ _ h => h) (Or.inl ⟨by rfl, ?_⟩) hHeld ?_
                  rotate_left 1
                  · (intro w hSw; (try dsimp only at hSw); go_simp <;> with_reducible rfl)
                  try simp only [Act.put, List.setIfInBounds_toArray, List.set_cons_zero, List.set_cons_succ, List.getElem_toArray, List.getElem_cons_succ, List.getElem_cons_zero]
                  refine wpAnyH_take (i := 13) (v := ?_) rfl (by kernel_rfl) (by kernel_rfl) (by kernel_rfl) (fun _ _ _ h => h) (Or.inl ⟨by rfl, ?_⟩) hHeld ?_
                  rotate_left 1
                  · (intro w hSw; (try dsimp only at hSw); go_simp <;> with_reducible rfl)
                  try simp only [Act.put, List.setIfInBounds_toArray, List.set_cons_zero, List.set_cons_succ, List.getElem_toArray, List.getElem_cons_succ, List.getElem_cons_zero]
                  refine wpAnyH_take (i := 14) (v := ?_) rfl (by kernel_rfl) (by kernel_rfl) (by kernel_rfl) (fun _ _ _ h => h) (Or.inl ⟨by rfl, ?_⟩) hHeld ?_
                  rotate_left 1
                  · (intro w hSw; (try dsimp only at hSw); go_simp <;> with_reducible rfl)
                  try simp only [Act.put, List.setIfInBounds_toArray, List.set_cons_zero, List.set_cons_succ, List.getElem_toArray, List.getElem_cons_succ, List.getElem_cons_zero]
                  refine wpAnyH_take (i := 15) (v := ?_) rfl (by kernel_rfl) (by kernel_rfl) (by kernel_rfl) (fun _ _ _ h => h) (Or.inl ⟨by rfl, ?_⟩) hHeld ?_
                  rotate_left 1
                  · (intro w hSw; (try dsimp only at hSw); go_simp <;> with_reducible rfl)
                  try simp only [Act.put, List.setIfInBounds_toArray, List.set_cons_zero, List.set_cons_succ, List.getElem_toArray, List.getElem_cons_succ, List.getElem_cons_zero]
                  refine wpAnyH_take (i := 16) (v := ?_) rfl (by kernel_rfl) (by kernel_rfl) (by kernel_rfl) (fun _ _ _ h => h) (Or.inl ⟨by rfl, ?_⟩) hHeld ?_
                  rotate_left 1
                  · (intro w hSw; (try dsimp only at hSw); go_simp <;> with_reducible rfl)
                  try simp only [Act.put, List.setIfInBounds_toArray, List.set_cons_zero, List.set_cons_succ, List.getElem_toArray, List.getElem_cons_succ, List.getElem_cons_zero]
                  refine wpAnyH_take (i := 17) (v := ?_) rfl (by kernel_rfl) (by kernel_rfl) (by kernel_rfl) (fun _ _ _ h => h) (Or.inl ⟨by rfl, ?_⟩) hHeld ?_
                  rotate_left 1
                  · (intro w hSw; (try dsimp only at hSw); go_simp <;> with_reducible rfl)
                  try simp only [Act.put, List.setIfInBounds_toArray, List.set_cons_zero, List.set_cons_succ, List.getElem_toArray, List.getElem_cons_succ, List.getElem_cons_zero]
                  refine wpAnyH_take (i := 18) (v := ?_) rfl (by kernel_rfl) (by kernel_rfl) (by kernel_rfl) (fun _ _ _ h => h) (Or.inl ⟨by rfl, ?_⟩) hHeld ?_
                  rotate_left 1
                  · (intro w hSw; (try dsimp only at hSw); go_simp <;> with_reducible rfl)
                  try simp only [Act.put, List.setIfInBounds_toArray, List.set_cons_zero, List.set_cons_succ, List.getElem_toArray, List.getElem_cons_succ, List.getElem_cons_zero]
                  refine wpAnyH_take (i := 19) (v := ?_) rfl (by kernel_rfl) (by kernel_rfl) (by kernel_rfl) (fun _ _ _ h => h) (Or.inl ⟨by rfl, ?_⟩) hHeld ?_
                  rotate_left 1
                  · (intro w hSw; (try dsimp only at hSw); go_simp <;> with_reducible rfl)
                  try simp only [Act.put, List.setIfInBounds_toArray, List.set_cons_zero, List.set_cons_succ, List.getElem_toArray, List.getElem_cons_succ, List.getElem_cons_zero]
                  refine wpAnyH_take (i := 20) (v := ?_) rfl (by kernel_rfl) (by kernel_rfl) (by kernel_rfl) (fun _ _ _ h => h) (Or.inl ⟨by rfl, ?_⟩) hHeld ?_
                  rotate_left 1
                  · (intro w hSw; (try dsimp only at hSw); go_simp <;> with_reducible rfl)
                  try simp only [Act.put, List.setIfInBounds_toArray, List.set_cons_zero, List.set_cons_succ, List.getElem_toArray, List.getElem_cons_succ, List.getElem_cons_zero]
                  refine wpAnyH_done (by kernel_rfl) ?_ _
                  clear hHeld
                  have HTQ := hid (mu_skip HTI.out (T := TT) HNN.out.2.1 HIN.out HNC.out HIT.out (by have h1 := HLP.out; have h2 := HLF.out; omega))
                  have HKW : Hid (wrap64 ((k : Int) + 1) = ((k + 1 : Nat) : Int)) := hid (by have h1 := HKG.out; have h2 := HMU.out; have h3 := HTB.out; rw [w64d (by omega) (by omega)]; omega)
                  have HLE : Hid (sumN n (capL ls) - sumN n at_ = lfN) := hid (by have := HLF.out; omega)
                  go_wp2_with fail
                  go_roundg (muT ls TT n (k + 1) at_)
                  case rel => exact ⟨k + 1, at_, f, L, l0, O, gp, rfl, by have h1 := HKG.out; have h2 := HTQ.out; have h3 := HG.out; omega, by rw [HKW.out], by rw [HLE.out], HTI.out, HMw.out.keep0 f0, HGP.out, HBA.out.keep f0 (fun h => h), HBS.out.keep f0 (fun h => h), row_keep HR.out f0 (fun _ _ h => h), HAB.out, HNG.out, HFr.out.trans (f0.mono (fun _ _ h => h.elim))⟩
                  case measure => have h2 := HTQ.out; have h3 := HG.out; omega
              · have e2 : decide ((ul : Int) ≤ (av : Int)) = true := decide_eq_true (by omega)
                have e2n : decide (ul ≤ av) = true := decide_eq_true (by omega)
                have HNC : Hid (¬ at_ i < capL ls i) := hid (by rw [HUL2.out, ← HAV.out]; omega)
                go_wp2_with fail
                refine wp_region_held_drew (S := fun W => W.cell? ⟨za, i, none⟩ = some (.int .i64 (av : Int)) ∧ W.cell? ⟨b, off + i, none⟩ = some (.slice uo ul uc)) (by kernel_rfl) (PS.out _ f0z) (fun hHeld => ?_)
                refine wpAnyH_take (i := 0) (v := ?_) rfl (by kernel_rfl) (by kernel_rfl) (by kernel_rfl) (fun _ _ _ h => h) (Or.inl ⟨by rfl, ?_⟩) hHeld ?_
                rotate_left 1
                · (intro w hSw; (try dsimp only at hSw); go_simp <;> with_reducible rfl)
                try simp only [Act.put, List.setIfInBounds_toArray, List.set_cons_zero, List.set_cons_succ, List.getElem_toArray, List.getElem_cons_succ, List.getElem_cons_zero]
                refine wpAnyH_take (i := 1) (v := ?_) rfl (by kernel_rfl) (by kernel_rfl) (by kernel_rfl) (fun _ _ _ h => h) (Or.inl ⟨by rfl, ?_⟩) hHeld ?_
                rotate_left 1
                · (intro w hSw; (try dsimp only at hSw); go_simp <;> with_reducible rfl)
                try simp only [Act.put, List.setIfInBounds_toArray, List.set_cons_zero, List.set_cons_succ, List.getElem_toArray, List.getElem_cons_succ, List.getElem_cons_zero]
                refine wpAnyH_take (i := 2) (v := ?_) rfl (by kernel_rfl) (by kernel_rfl) (by kernel_rfl) (fun _ _ _ h => h) (Or.inl ⟨by rfl, ?_⟩) hHeld ?_
                rotate_left 1
                · (intro w hSw; (try dsimp only at hSw); go_simp <;> with_reducible rfl)
                try simp only [Act.put, List.setIfInBounds_toArray, List.set_cons_zero, List.set_cons_succ, List.getElem_toArray, List.getElem_cons_succ, List.getElem_cons_zero]
                refine wpAnyH_take (i := 3) (v := ?_) rfl (by kernel_rfl) (by kernel_rfl) (by kernel_rfl) (fun _ _ _ h => h) (Or.inl ⟨by rfl, ?_⟩) hHeld ?_
                rotate_left 1
                · (intro w hSw; (try dsimp only at hSw); go_simp <;> with_reducible rfl)
                try simp only [Act.put, List.setIfInBounds_toArray, List.set_cons_zero, List.set_cons_succ, List.getElem_toArray, List.getElem_cons_succ, List.getElem_cons_zero]
                refine wpAnyH_take (i := 4) (v := ?_) rfl (by kernel_rfl) (by kernel_rfl) (by kernel_rfl) (fun _ _ _ h => h) (Or.inl ⟨by rfl, ?_⟩) hHeld ?_
                rotate_left 1
                · (intro w hSw; (try dsimp only at hSw); go_simp <;> with_reducible rfl)
                try simp only [Act.put, List.setIfInBounds_toArray, List.set_cons_zero, List.set_cons_succ, List.getElem_toArray, List.getElem_cons_succ, List.getElem_cons_zero]
                refine wpAnyH_take (i := 5) (v := ?_) rfl (by kernel_rfl) (by kernel_rfl) (by kernel_rfl) (fun _ _ _ h => h) (Or.inl ⟨by rfl, ?_⟩) hHeld ?_
                rotate_left 1
                · (intro w hSw; (try dsimp only at hSw); go_simp <;> with_reducible rfl)
                try simp only [Act.put, List.setIfInBounds_toArray, List.set_cons_zero, List.set_cons_succ, List.getElem_toArray, List.getElem_cons_succ, List.getElem_cons_zero]
                refine wpAnyH_take (i := 6) (v := ?_) rfl (by kernel_rfl) (by kernel_rfl) (by kernel_rfl) (fun _ _ _ h => h) (Or.inl ⟨by rfl, ?_⟩) hHeld ?_
                rotate_left 1
                · (intro w hSw; (try dsimp only at hSw); go_simp <;> with_reducible rfl)
                try simp only [Act.put, List.setIfInBounds_toArray, List.set_cons_zero, List.set_cons_succ, List.getElem_toArray, List.getElem_cons_succ, List.getElem_cons_zero]
                refine wpAnyH_take (i := 7) (v := ?_) rfl (by kernel_rfl) (by kernel_rfl) (by kernel_rfl) (fun _ _ _ h => h) (Or.inl ⟨by rfl, ?_⟩) hHeld ?_
                rotate_left 1
                · (intro w hSw; (try dsimp only at hSw); go_simp <;> with_reducible rfl)
                try simp only [Act.put, List.setIfInBounds_toArray, List.set_cons_zero, List.set_cons_succ, List.getElem_toArray, List.getElem_cons_succ, List.getElem_cons_zero]
                refine wpAnyH_take (i := 8) (v := ?_) rfl (by kernel_rfl) (by kernel_rfl) (by kernel_rfl) (fun _ _ _ h => h) (Or.inl ⟨by rfl, ?_⟩) hHeld ?_
                rotate_left 1
                · (intro w hSw; (try dsimp only at hSw); go_simp <;> with_reducible rfl)
                try simp only [Act.put, List.setIfInBounds_toArray, List.set_cons_zero, List.set_cons_succ, List.getElem_toArray, List.getElem_cons_succ, List.getElem_cons_zero]
                refine wpAnyH_take (i := 9) (v := ?_) rfl (by kernel_rfl) (by kernel_rfl) (by kernel_rfl) (fun _ _ _ h => h) (Or.inl ⟨by rfl, ?_⟩) hHeld ?_
                rotate_left 1
                · (intro w hSw; (try dsimp only at hSw); go_simp <;> with_reducible rfl)
                try simp only [Act.put, List.setIfInBounds_toArray, List.set_cons_zero, List.set_cons_succ, List.getElem_toArray, List.getElem_cons_succ, List.getElem_cons_zero]
                refine wpAnyH_take (i := 10) (v := ?_) rfl (by kernel_rfl) (by kernel_rfl) (by kernel_rfl) (fun _ _ _ h => h) (Or.inl ⟨by rfl, ?_⟩) hHeld ?_
                rotate_left 1
                · (intro w hSw; (try dsimp only at hSw); go_simp <;> with_reducible rfl)
                try simp only [Act.put, List.setIfInBounds_toArray, List.set_cons_zero, List.set_cons_succ, List.getElem_toArray, List.getElem_cons_succ, List.getElem_cons_zero]
                refine wpAnyH_take (i := 11) (v := ?_) rfl (by kernel_rfl) (by kernel_rfl) (by kernel_rfl) (fun _ _ _ h => h) (Or.inl ⟨by rfl, ?_⟩) hHeld ?_
                rotate_left 1
                · (intro w hSw; (try dsimp only at hSw); go_simp <;> with_reducible rfl)
                try simp only [Act.put, List.setIfInBounds_toArray, List.set_cons_zero, List.set_cons_succ, List.getElem_toArray, List.getElem_cons_succ, List.getElem_cons_zero]
                refine wpAnyH_take (i := 12) (v := ?_) rfl (by kernel_rfl) (by kernel_rfl) (by kernel_rfl) (fun _ _ _ h => h) (Or.inl ⟨by rfl, ?_⟩) hHeld ?_
                rotate_left 1
                · (intro w hSw; (try dsimp only at hSw); go_simp <;> with_reducible rfl)
                try simp only [Act.put, List.setIfInBounds_toArray, List.set_cons_zero, List.set_cons_succ, List.getElem_toArray, List.getElem_cons_succ, List.getElem_cons_zero]
                refine wpAnyH_take (i := 13) (v := ?_) rfl (by kernel_rfl) (by kernel_rfl) (by kernel_rfl) (fun _ _ _ h => h) (Or.inl ⟨by rfl, ?_⟩) hHeld ?_
                rotate_left 1
                · (intro w hSw; (try dsimp only at hSw); go_simp <;> with_reducible rfl)
                try simp only [Act.put, List.setIfInBounds_toArray, List.set_cons_zero, List.set_cons_succ, List.getElem_toArray, List.getElem_cons_succ, List.getElem_cons_zero]
                refine wpAnyH_take (i := 14) (v := ?_) rfl (by kernel_rfl) (by kernel_rfl) (by kernel_rfl) (fun _ _ _ h => h) (Or.inl ⟨by rfl, ?_⟩) hHeld ?_
                rotate_left 1
                · (intro w hSw; (try dsimp only at hSw); go_simp <;> with_reducible rfl)
                try simp only [Act.put, List.setIfInBounds_toArray, List.set_cons_zero, List.set_cons_succ, List.getElem_toArray, List.getElem_cons_succ, List.getElem_cons_zero]
                refine wpAnyH_take (i := 15) (v := ?_) rfl (by kernel_rfl) (by kernel_rfl) (by kernel_rfl) (fun _ _ _ h => h) (Or.inl ⟨by rfl, ?_⟩) hHeld ?_
                rotate_left 1
                · (intro w hSw; (try dsimp only at hSw); go_simp <;> with_reducible rfl)
                try simp only [Act.put, List.setIfInBounds_toArray, List.set_cons_zero, List.set_cons_succ, List.getElem_toArray, List.getElem_cons_succ, List.getElem_cons_zero]
                refine wpAnyH_take (i := 16) (v := undef) rfl (by kernel_rfl) (by kernel_rfl) (by kernel_rfl) (fun _ _ _ h => h) (Or.inr ⟨by rfl, rfl⟩) hHeld ?_
                try simp only [Act.put, List.setIfInBounds_toArray, List.set_cons_zero, List.set_cons_succ, List.getElem_toArray, List.getElem_cons_succ, List.getElem_cons_zero]
                refine wpAnyH_take (i := 17) (v := undef) rfl (by kernel_rfl) (by kernel_rfl) (by kernel_rfl) (fun _ _ _ h => h) (Or.inr ⟨by rfl, rfl⟩) hHeld ?_
                try simp only [Act.put, List.setIfInBounds_toArray, List.set_cons_zero, List.set_cons_succ, List.getElem_toArray, List.getElem_cons_succ, List.getElem_cons_zero]
                refine wpAnyH_take (i := 18) (v := undef) rfl (by kernel_rfl) (by kernel_rfl) (by kernel_rfl) (fun _ _ _ h => h) (Or.inr ⟨by rfl, rfl⟩) hHeld ?_
                try simp only [Act.put, List.setIfInBounds_toArray, List.set_cons_zero, List.set_cons_succ, List.getElem_toArray, List.getElem_cons_succ, List.getElem_cons_zero]
                refine wpAnyH_take (i := 19) (v := undef) rfl (by kernel_rfl) (by kernel_rfl) (by kernel_rfl) (fun _ _ _ h => h) (Or.inr ⟨by rfl, rfl⟩) hHeld ?_
                try simp only [Act.put, List.setIfInBounds_toArray, List.set_cons_zero, List.set_cons_succ, List.getElem_toArray, List.getElem_cons_succ, List.getElem_cons_zero]
                refine wpAnyH_take (i := 20) (v := ?_) rfl (by kernel_rfl) (by kernel_rfl) (by kernel_rfl) (fun _ _ _ h => h) (Or.inl ⟨by rfl, ?_⟩) hHeld ?_
                rotate_left 1
                · (intro w hSw; (try dsimp only at hSw); go_simp <;> with_reducible rfl)
                try simp only [Act.put, List.setIfInBounds_toArray, List.set_cons_zero, List.set_cons_succ, List.getElem_toArray, List.getElem_cons_succ, List.getElem_cons_zero]
                refine wpAnyH_done (by kernel_rfl) ?_ _
                clear hHeld
                have HTQ := hid (mu_skip HTI.out (T := TT) HNN.out.2.1 HIN.out HNC.out HIT.out (by have h1 := HLP.out; have h2 := HLF.out; omega))
                have HKW : Hid (wrap64 ((k : Int) + 1) = ((k + 1 : Nat) : Int)) := hid (by have h1 := HKG.out; have h2 := HMU.out; have h3 := HTB.out; rw [w64d (by omega) (by omega)]; omega)
                have HLE : Hid (sumN n (capL ls) - sumN n at_ = lfN) := hid (by have := HLF.out; omega)
                go_wp2_with fail
                go_roundg (muT ls TT n (k + 1) at_)
                case rel => exact ⟨k + 1, at_, f, L, l0, O, gp, rfl, by have h1 := HKG.out; have h2 := HTQ.out; have h3 := HG.out; omega, by rw [HKW.out], by rw [HLE.out], HTI.out, HMw.out.keep0 f0, HGP.out, HBA.out.keep f0 (fun h => h), HBS.out.keep f0 (fun h => h), row_keep HR.out f0 (fun _ _ h => h), HAB.out, HNG.out, HFr.out.trans (f0.mono (fun _ _ h => h.elim))⟩
                case measure => have h2 := HTQ.out; have h3 := HG.out; omega
          · have HALL : Hid (∀ s, s < n → at_ s = capL ls s) := hid (sumN_eq HTI.out.cap (by have := HLF.out; omega))
            have HFL : Hid (∀ s, s < n → f s ≤ 10000) := hid (fun s hs => by
              have h1 := HTI.out.fl s hs
              have h2 := sumS_bd (rowL ls s) (at_ s)
              have h3 : at_ s ≤ 40 := Nat.le_trans (HTI.out.cap s hs) (Nat.min_le_right _ _)
              have h4 := HNN.out
              unfold stA at h1
              omega)
            have HOL : Hid (O.length + tot n L ≤ 400) := hid (by
              have h1 := HTI.out.len
              have h2 := sumN_le HTI.out.cap
              have h3 := cap_bd ls n
              have h4 := HNN.out
              omega)
            have HN9 := hid HNN.out.2.1
            have HN0 := hid HNN.out.1
            have HLZ : Hid (lfN = 0) := hid (by omega)
            go_upto_region 23 with (fail)
            clear hl0 hul
            go_wp2_with fail
            go_loopw [19] (fun jj wj => ∃ (m : Nat) (g : Nat → Int), m ≤ n ∧ jj = .int .i64 m ∧ NI n 9 g L l0 ∧ (∀ s, s < m → g s = 1099511627776) ∧ (∀ s, m ≤ s → s < n → g s ≤ 10000) ∧ MO wj p (isP n g L) (ky l0) gp ∧ Fr gp wr wj) (fun jj _ => n - (intOf jj).toNat)
            case atStart => exact ⟨0, f, by omega, rfl, HTI.out.ni, fun s hs => by omega, fun s _ hs => HFL.out s hs, HMw.out, Fr.refl _ _⟩
            case round =>
              rename_i wbase _ _ _ _
              obtain ⟨m, g, hm, rfl, hN, hE, hL, hM, hF⟩ := hrel
              have HNi := hid hN
              have HE := hid hE
              have HL := hid hL
              have HM := hid hM
              have HFm := hid hF
              clear hN hE hL hM hF
              by_cases hmn : m < n
              · have HMN := hid hmn
                have HMW : Hid (wrap64 ((m : Int) + 1) = ((m + 1 : Nat) : Int)) := hid (by have := HN9.out; rw [w64d (by omega) (by omega)]; omega)
                clear hm
                go_wp2_with fail
                with_reducible refine (HKY.out _ _).mono ?_
                rintro e w4 ⟨rfl, f4⟩
                obtain ⟨p1, p2, p3⟩ := HNi.out.mark (s := m) (B := 1099511627776) HMN.out (by decide) (by decide) (by have := HL.out m (Nat.le_refl m) HMN.out; omega)
                have HMK := hid (mark_o (m : Int) (ky 1099511627776) (HM.out.keep0 f4))
                rw [p1, p2] at HMK
                unfold ky at HMK
                unfold Ky.agg at HMK
                have HN4 := hid p3
                have HF4 := hid (HFm.out.trans (f4.mono (fun _ _ h => h.elim)))
                clear p1 p2 p3 f4
                go_wp2_with fail
                with_reducible refine HMK.out.mono ?_
                rintro e w5 ⟨rfl, o5, f5⟩
                have HO5 := hid o5
                have HF5 := hid (HF4.out.trans f5)
                clear o5 f5 HMK
                go_wp2_with fail
                go_roundw
                case rel => exact ⟨m + 1, _, by have := HMN.out; omega, by rw [HMW.out], HN4.out, fun s hs => by
                  by_cases e : s = m
                  · subst e; rw [set1_at]
                  · rw [set1_ne _ _ e]; exact HE.out s (by omega), fun s hs hs3 => by
                  rw [set1_ne _ _ (by omega)]; exact HL.out s (by omega) hs3, HO5.out, HF5.out⟩
                case measure => have := HMN.out; rw [HMW.out]; simp [intOf]; omega
              · have hmn' : m = n := by omega
                subst hmn'
                clear hmn hm
                have HCT8 : Hid (cntS (isP m g L) < 100000) := hid (by rw [cnt_isP HN9.out]; have := HOL.out; omega)
                have HRm := hid (row_keep HR.out HFm.out (fun b hb e => HNG.out b hb e))
                have HFp : Hid (Fr fp w wr) := hid (HFr.out.step HFm.out (fun b hb hx => by
                  rcases HGP.out.own b hx with h | h
                  · exact h
                  · omega))
                go_wp2_with fail
                with_reducible refine (take_o HM.out HCT8.out).mono ?_
                rintro e w9 ⟨v9, out, S9, la9, rfl, t9, o9, i9, n9, _, f9⟩
                obtain ⟨L9, l9, O9, rfl, rfl, hO, k1, k2, k3, k4, k5, k6, k7⟩ := HNi.out.told t9
                have hE9 : ∀ s, s < m → L9 s = [] := k1.stop HE.out k7
                have hlen9 : out.length = O9.length := by have := congrArg List.length hO; rw [List.length_map, List.length_map] at this; exact this
                have hk6 : O9.length = tot m L := by rw [tot_zero hE9] at k6; omega
                have HST := hid (stamps_any v9 out _ i9 (by have := HOL.out; omega))
                rw [show (out.map fun x => Value.int .i64 x.x.k.s) = O9.map (.int .i64) from by
                  have h := congrArg (List.map fun x : PI => Value.int .i64 x.k.s) hO
                  rw [List.map_map, List.map_map] at h
                  exact h, hlen9] at HST
                obtain ⟨a9, p9, hv9⟩ := i9.1.shape
                subst hv9
                have HR9 := hid (row_keep HRm.out f9 (fun b hb e => HNG.out b hb e))
                have HF9 : Hid (Fr fp w w9) := hid (HFp.out.step f9 (fun b hb hx => by
                  rcases HGP.out.own b hx with h | h
                  · exact h
                  · omega))
                have HX1 : Hid ((O ++ O9).Pairwise (· < ·)) := hid (by
                  rw [List.pairwise_append]
                  exact ⟨HTI.out.up, k3, fun a ha b hb => by have := HTI.out.le a ha; have := (k4 b hb).1; omega⟩)
                have HX2 : Hid ((O ++ O9).length = sumN m (capL ls)) := hid (by
                  rw [List.length_append]
                  have h1 := HTI.out.len
                  have h2 := HLF.out
                  have h3 := HLZ.out
                  omega)
                have HX3 : Hid (∀ a, a ∈ O ++ O9 ↔ ∃ s, s < m ∧ a ∈ ptsL (rowL ls s) s (capL ls s)) := hid (fun a => by
                  have h1 := HTI.out.mem a
                  have h2 := k5 a
                  rw [List.mem_append]
                  constructor
                  · intro h
                    obtain ⟨s, hs, hx⟩ := h1.1 (by
                      rcases h with h | h
                      · exact .inl h
                      · exact .inr (h2.1 (.inl h)))
                    exact ⟨s, hs, by rw [← HALL.out s hs]; exact hx⟩
                  · rintro ⟨s, hs, hx⟩
                    rcases h1.2 ⟨s, hs, by rw [HALL.out s hs]; exact hx⟩ with h | h
                    · exact .inl h
                    · rcases h2.2 h with h | ⟨t, ht, h⟩
                      · exact .inr h
                      · rw [hE9 t ht] at h; simp at h)
                have HOL9 : Hid (O.length + O9.length ≤ 400) := hid (by have := HOL.out; omega)
                generalize out.length = nO at *
                clear t9 o9 i9 n9 f9 hO hlen9 k1 k2 k3 k4 k5 k6 k7 hE9 hk6
                go_wp2_with fail
                with_reducible refine HST.out.mono ?_
                rintro e wA ⟨uA, rfl, rA, nA, fA⟩
                have HRA := hid rA
                have HRO := hid (row_keep HR9.out fA (fun _ _ h => h))
                have HFA := hid (HF9.out.trans (fA.mono (fun _ _ h => h.elim)))
                clear rA nA fA HST HR9 HF9
                go_wp2_with (at_builtin; refine wpList_append_ints rfl _ _ rfl _ O O9 rfl HRO.out _ rfl HRA.out (by have := HOL9.out; omega) ?_)
                intro v' wB rB fB gB
                have HRB := hid rB
                have HABB : Hid (Above w.heap.size (footOf v')) := hid (fun b hb => by
                  rcases gB b hb with h | h
                  · exact HAB.out b h
                  · have := HFA.out.size; omega)
                have HFB : Hid (Fr fp w wB) := hid (HFA.out.step fB (fun b hb hx => by have := HAB.out b hx; omega))
                clear rB fB gB
                go_wp2_with fail
                go_ret2
                exact ⟨v', O ++ O9, rfl, by rw [List.length_append, List.map_append]; exact HRB.out, HABB.out, HX1.out, HX2.out, HX3.out, HFB.out⟩
end Go.Proofs.Ytfkffjjkmckpnaa
