/-
  THE WALK OF THE LAW MarkMaps. Conditions: none.
-/
import Derived.Test.YtfhhcbacnlakiaaMapLaw
import Derived.Test.YtfhhcbacnlakiaaMarkWorks
import Derived.RegionTactic
import Derived.BigRegion
import Derived.Deep.RegionHeld3
namespace Go.Proofs.Ytfhhcbacnlakiaa
open Go.RowKit

theorem upd_any {P : Program} {kt e t : TypeId} {κ : K4 → Value} (K : KeyOk P kt κ) (ht : P.underlying t = some (.map kt e)) {w : World} {b : Nat} {M : List (K4 × Value)}
    (h : MapIs w b κ M) (a : K4) (v : Value) : ∃ U : World → World, ∀ W : World, W.heap = w.heap → (Instr.mapUpdate t (.map (some b)) (κ a) v).run P W = .ok () (U W) ∧ MapIs (U W) b κ (put M a v) ∧ Fr (· = b) W (U W) := by
  have key : ∀ W : World, ∃ w', W.heap = w.heap → (Instr.mapUpdate t (.map (some b)) (κ a) v).run P W = .ok () w' ∧ MapIs w' b κ (put M a v) ∧ Fr (· = b) W w' := fun W => by
    by_cases hW : W.heap = w.heap
    · have h2 : MapIs W b κ M := by
        obtain ⟨es, c, q1, q2⟩ := h
        exact ⟨es, c, by rw [hW]; exact q1, q2⟩
      obtain ⟨w', q⟩ := run_mapUpdate_map K ht h2 a v
      exact ⟨w', fun _ => q⟩
    · exact ⟨W, fun h => absurd h hW⟩
  exact ⟨fun W => Classical.choose (key W), fun W => Classical.choose_spec (key W)⟩
theorem look_any {P : Program} {kt e t : TypeId} {κ : K4 → Value} (K : KeyOk P kt κ) (ht : P.underlying t = some (.map kt e)) {z : Value} (hz : ∀ W : World, (zeroValue e).run P W = .ok z W) {w : World} {b : Nat} {M : List (K4 × Value)}
    (h : MapIs w b κ M) (a : K4) (W : World) (hW : W.heap = w.heap) : (Instr.lookup t (.map (some b)) (κ a) false).run P W = .ok ((look M a).getD z) W := by
  have h2 : MapIs W b κ M := by
    obtain ⟨es, c, q1, q2⟩ := h
    exact ⟨es, c, by rw [hW]; exact q1, q2⟩
  have := run_lookup_map K ht (hz W) h2 a false
  simpa using this
theorem kcmp_ne (a b : K4) : (kcmp a.1 a.2.1 a.2.2.1 a.2.2.2 b.1 b.2.1 b.2.2.1 b.2.2.2 != 0) = decide (a ≠ b) := by
  have h := kcmp_zero a b
  by_cases hab : a = b
  · have h2 := h.2 hab; rw [h2]; simp [hab]
  · have h2 : ¬ kcmp a.1 a.2.1 a.2.2.1 a.2.2.2 b.1 b.2.1 b.2.2.1 b.2.2.2 = 0 := fun e => hab (h.1 e)
    simp [hab, h2]
theorem kcmp_eq (a b : K4) : (kcmp a.1 a.2.1 a.2.2.1 a.2.2.2 b.1 b.2.1 b.2.2.1 b.2.2.2 == 0) = decide (a = b) := by
  have h := kcmp_zero a b
  by_cases hab : a = b
  · have h2 := h.2 hab; rw [h2]; simp [hab]
  · have h2 : ¬ kcmp a.1 a.2.1 a.2.2.1 a.2.2.2 b.1 b.2.1 b.2.2.1 b.2.2.2 = 0 := fun e => hab (h.1 e)
    simp [hab, h2]
theorem zero_int (W : World) : (zeroValue 3).run Try.prog W = .ok (.int .i64 0) W := by simp [go_sem]

set_option maxRecDepth 100000 in
set_option maxHeartbeats 4000000 in
theorem maps_walk (v0 : Value) (w : World) (w0 : ∃ K, IsKeys w v0 K) :
    Calls Try.prog 5 #[v0] w fun e w' => e = .returned (.bool true) ∧ Below w.heap.size w w' := by
  obtain ⟨K, ao, cap, rfl, hlc, hcm, hk⟩ := w0
  obtain ⟨n, hn⟩ : ∃ n, n = K.length := ⟨_, rfl⟩
  have HK := hid hk
  have HN := hid hn
  rw [← hn] at hlc ⊢
  have hn9 : n ≤ 9223372036854775807 := by unfold maxLen at hcm; omega
  clear hk hn hcm
  by_cases h60 : 60 < n
  · go_enter Try.func5, Try.ntmps5
    go_wp2_with fail
    refine (works_any w).mono ?_
    rintro e w1 ⟨rfl, f1⟩
    go_wp2_with fail
    go_ret
    exact ⟨rfl, f1.below (Nat.le_refl _) (fun _ h => h.elim)⟩
  · have h60' : ((n : Nat) : Int) ≤ 60 := by omega
    have hmm := @run_makeMap Try.prog
    go_enter Try.func5, Try.ntmps5
    go_wp2_with fail
    refine (works_any w).mono ?_
    rintro e w1 ⟨rfl, f1⟩
    go_wp2_with fail
    have hM0 : MapIs (w1.alloc (.map #[] 0)) w1.heap.size kv [] := MapIs.new w1 kv
    have f2 : Fr (fun _ => False) w (w1.alloc (.map #[] 0)) := f1.alloc _
    have hB := f1.size
    generalize w1.alloc (.map #[] 0) = w2 at *
    generalize w1.heap.size = B at *
    have HB := hid hB
    clear hB f1 hmm
    go_loopw [4, 5] (fun m i wr => ∃ k c : Nat, k ≤ n ∧ c ≤ k ∧ i = .int .i64 k ∧ m = .int .i64 c ∧ (∃ M, MapIs wr B kv M ∧ CountOk M (K.take k) ∧ M.length = c) ∧ Fr (fun _ => False) w wr) (fun _ i _ => n - (intOf i).toNat)
    case atStart => exact ⟨0, 0, by omega, by omega, rfl, rfl, ⟨[], hM0, by simpa using countOk_nil, rfl⟩, f2⟩
    case round =>
      obtain ⟨k, c, hk, hck, rfl, rfl, ⟨M, hM, hC, hMl⟩, hf⟩ := hrel
      by_cases hlt : k < n
      · obtain ⟨b, off, rfl, hb, hcells⟩ := HK.out k (by rw [← HN.out]; exact hlt)
        obtain ⟨x, hx⟩ : ∃ x, x = K.getD k k0 := ⟨_, rfl⟩
        rw [← hx] at hcells
        have c0 : wr.cell? ⟨b, off + k * 4, none⟩ = some (.int .i64 x.1) := cell_fr hf (hcells 0 (by decide))
        have c1 : wr.cell? ⟨b, off + k * 4 + 1, none⟩ = some (.int .i64 x.2.1) := cell_fr hf (hcells 1 (by decide))
        have c2 : wr.cell? ⟨b, off + k * 4 + 2, none⟩ = some (.int .i64 x.2.2.1) := cell_fr hf (hcells 2 (by decide))
        have c3 : wr.cell? ⟨b, off + k * 4 + 3, none⟩ = some (.int .i64 x.2.2.2) := cell_fr hf (hcells 3 (by decide))
        have HX := hid hx
        clear hcells hx
        have hlk := fun W hW => look_any keyKey Try.underlying35 zero_int hM x W hW
        have hcg := countOk_get hC x
        rw [hcg] at hlk
        obtain ⟨U, hU⟩ := upd_any keyKey Try.underlying35 hM x (.int .i64 ((((K.take k).count x : Nat) : Int) + 1))
        have hup := fun W hW => (hU W hW).1
        have HU := hid fun W hW => (hU W hW).2
        have hdr : ∀ W : World, W.drew.heap = W.heap := fun _ => rfl
        have hc9 : (((K.take k).count x : Nat) : Int) ≤ 60 := by
          have := List.count_le_length (a := x) (l := K.take k)
          simp at this
          omega
        have HC := hid (countOk_put hC x)
        clear hU hcg
        generalize (K.take k).count x = cx at *
        simp only [kv] at hlk hup
        go_wp2_with fail
        go_region
        obtain ⟨hM4, hF4⟩ := HU.out wr.drew (hdr wr)
        have f4 : Fr (fun _ => False) w (U wr.drew) := hf.drew.step hF4 (fun i hi h => by have := HB.out; omega)
        generalize U wr.drew = w4 at *
        have HM4 := hid hM4
        have HLN := hid (countOk_len hC x)
        clear hM4 hF4 hlk hup hdr c0 c1 c2 c3 hM hC hf HU
        go_wp2_with fail
        go_loopw [6, 7] (fun fst i wq => ∃ j : Nat, j ≤ k ∧ i = .int .i64 j ∧ fst = .bool (decide (x ∉ K.take j)) ∧ Fr (fun _ => False) w4 wq) (fun _ i _ => k - (intOf i).toNat)
        case atStart => exact ⟨0, by omega, rfl, by simp, Fr.refl _ _⟩
        case round =>
          obtain ⟨j, hj, rfl, rfl, hfq⟩ := hrel
          have hjn : j ≤ n := by omega
          by_cases hjl : j < k
          · have hjn2 : j < n := by omega
            have HFS := hid (first_step K x (k := j) (by rw [← HN.out]; omega))
            by_cases hfi : x ∈ K.take j
            · have hd : decide (x ∉ K.take j) = false := by simpa using hfi
              rw [hd]
              have HD := hid hd
              clear hd hfi
              go_wp2_with fail
              go_region
              all_goals
                go_wp2_with fail
                go_roundw
                case rel => exact ⟨j + 1, by omega, by go_num, by rw [HFS.out, HD.out]; rfl, by with_reducible (repeat' (first | exact hfq | refine Fr.drew ?_))⟩
                case measure => simp [intOf]; omega
            · have hd : decide (x ∉ K.take j) = true := by simpa using hfi
              rw [hd]
              have HD := hid hd
              clear hd hfi
              obtain ⟨b', off', hbo, hb', hcells⟩ := HK.out j (by rw [← HN.out]; omega)
              injection hbo with hbo
              injection hbo with hbo1 hbo2 _
              subst hbo1
              subst hbo2
              obtain ⟨_, _, hbo, _, hcx⟩ := HK.out k (by rw [← HN.out]; omega)
              injection hbo with hbo
              injection hbo with hbo1 hbo2 _
              subst hbo1
              subst hbo2
              rw [← HX.out] at hcx
              obtain ⟨y, hy⟩ : ∃ y, y = K.getD j k0 := ⟨_, rfl⟩
              rw [← hy] at hcells
              have HY := hid hy
              clear hy
              have fq := f4.trans hfq
              have c0 : wr.cell? ⟨b, off + k * 4, none⟩ = some (.int .i64 x.1) := cell_fr fq (hcx 0 (by decide))
              have c1 : wr.cell? ⟨b, off + k * 4 + 1, none⟩ = some (.int .i64 x.2.1) := cell_fr fq (hcx 1 (by decide))
              have c2 : wr.cell? ⟨b, off + k * 4 + 2, none⟩ = some (.int .i64 x.2.2.1) := cell_fr fq (hcx 2 (by decide))
              have c3 : wr.cell? ⟨b, off + k * 4 + 3, none⟩ = some (.int .i64 x.2.2.2) := cell_fr fq (hcx 3 (by decide))
              have d0 : wr.cell? ⟨b, off + j * 4, none⟩ = some (.int .i64 y.1) := cell_fr fq (hcells 0 (by decide))
              have d1 : wr.cell? ⟨b, off + j * 4 + 1, none⟩ = some (.int .i64 y.2.1) := cell_fr fq (hcells 1 (by decide))
              have d2 : wr.cell? ⟨b, off + j * 4 + 2, none⟩ = some (.int .i64 y.2.2.1) := cell_fr fq (hcells 2 (by decide))
              have d3 : wr.cell? ⟨b, off + j * 4 + 3, none⟩ = some (.int .i64 y.2.2.2) := cell_fr fq (hcells 3 (by decide))
              have hacc : Fr (fun _ => False) w4 wr := hfq
              have HKZ := hid (kcmp_zero y x)
              clear hcells hcx fq
              go_wp2_with fail
              go_region_held3 (fun w' => w'.cell? ⟨b, off + k * 4, none⟩ = some (.int .i64 x.1) ∧ w'.cell? ⟨b, off + k * 4 + 1, none⟩ = some (.int .i64 x.2.1) ∧ w'.cell? ⟨b, off + k * 4 + 2, none⟩ = some (.int .i64 x.2.2.1) ∧ w'.cell? ⟨b, off + k * 4 + 3, none⟩ = some (.int .i64 x.2.2.2) ∧ w'.cell? ⟨b, off + j * 4, none⟩ = some (.int .i64 y.1) ∧ w'.cell? ⟨b, off + j * 4 + 1, none⟩ = some (.int .i64 y.2.1) ∧ w'.cell? ⟨b, off + j * 4 + 2, none⟩ = some (.int .i64 y.2.2.1) ∧ w'.cell? ⟨b, off + j * 4 + 3, none⟩ = some (.int .i64 y.2.2.2))
                (first | exact ⟨c0, c1, c2, c3, d0, d1, d2, d3⟩ | exact ⟨cell_fr h5 c0, cell_fr h5 c1, cell_fr h5 c2, cell_fr h5 c3, cell_fr h5 d0, cell_fr h5 d1, cell_fr h5 d2, cell_fr h5 d3⟩)
                (first
                  | (go_at_call 15; with_reducible refine (keys_any _ _ _ _ _ _ _ _ _).mono ?_; rintro e w5 ⟨rfl, h5⟩; have hacc := hacc.drew.trans h5))
              all_goals
                clear c0 c1 c2 c3 d0 d1 d2 d3
                rw [kcmp_ne]
                go_wp2_with fail
                go_roundw
                case rel => exact ⟨j + 1, by omega, by go_num, by rw [HFS.out, HD.out, Bool.true_and, HY.out], hacc⟩
                case measure => simp [intOf]; omega
          · have hjk : j = k := by omega
            subst hjk
            have fE := f4.trans hfq
            have HMr := hid (HM4.out.keep hfq (fun h => h))
            have HT := hid (take_succ_k K (i := j) (by rw [← HN.out]; exact hlt))
            by_cases hfi : x ∈ K.take j
            · have hd : decide (x ∉ K.take j) = false := by simpa using hfi
              have HL2 := hid (HLN.out (.int .i64 (((cx : Nat) : Int) + 1)))
              rw [hd]
              have HFI := hid hfi
              clear hd hfi
              go_wp2_with fail
              go_roundw
              case rel => exact ⟨j + 1, c, by omega, by omega, by go_num, rfl, ⟨_, HMr.out, by rw [HT.out, ← HX.out]; exact HC.out, by rw [HL2.out, if_pos HFI.out, hMl]⟩, fE⟩
              case measure => simp [intOf]; omega
            · have hd : decide (x ∉ K.take j) = true := by simpa using hfi
              have HL2 := hid (HLN.out (.int .i64 (((cx : Nat) : Int) + 1)))
              rw [hd]
              have HFI := hid hfi
              clear hd hfi
              go_wp2_with fail
              go_roundw
              case rel => exact ⟨j + 1, c + 1, by omega, by omega, by go_num, by go_num, ⟨_, HMr.out, by rw [HT.out, ← HX.out]; exact HC.out, by rw [HL2.out, if_neg HFI.out, hMl]⟩, fE⟩
              case measure => simp [intOf]; omega
      · have hkn : n = k := by omega
        have hCA : CountOk M K := by
          have := hC
          rw [← hkn, HN.out, List.take_length] at this
          exact this
        have HCA := hid hCA
        have HMA := hid hM
        have HML := hid hMl
        have fA := hf
        clear hC hM hMl hf hCA hck hk hlt
        subst hkn
        go_wp2_with fail
        obtain ⟨wA, hwA⟩ : ∃ wA, wA = wr := ⟨_, rfl⟩
        subst hwA
        go_loopw [8] (fun i wq => ∃ k : Nat, k ≤ n ∧ i = .int .i64 k ∧ Fr (fun _ => False) wA wq) (fun i _ => n - (intOf i).toNat)
        case atStart => exact ⟨0, by omega, rfl, Fr.refl _ _⟩
        case round =>
          obtain ⟨k, hk, rfl, hf⟩ := hrel
          obtain ⟨wB, hwB⟩ : ∃ wB, wB = wr := ⟨_, rfl⟩
          subst hwB
          have fB := fA.trans hf
          by_cases hlt : k < n
          · obtain ⟨b, off, rfl, hb, hcx⟩ := HK.out k (by rw [← HN.out]; exact hlt)
            obtain ⟨x, hx⟩ : ∃ x, x = K.getD k k0 := ⟨_, rfl⟩
            rw [← hx] at hcx
            have HX := hid hx
            clear hx
            have HCX := hid hcx
            clear hcx
            go_wp2_with fail
            go_loopw [9, 10] (fun sm i wq => ∃ j : Nat, j ≤ n ∧ i = .int .i64 j ∧ sm = .int .i64 (((K.take j).count x : Nat) : Int) ∧ Fr (fun _ => False) wB wq) (fun _ i _ => n - (intOf i).toNat)
            case atStart => exact ⟨0, by omega, rfl, by simp, Fr.refl _ _⟩
            case round =>
              obtain ⟨j, hj, rfl, rfl, hfq⟩ := hrel
              have fq := fB.trans hfq
              have hcj : (((K.take j).count x : Nat) : Int) ≤ 60 := by
                have := List.count_le_length (a := x) (l := K.take j)
                simp at this
                omega
              by_cases hjl : j < n
              · have HCS := hid (count_step K x (k := j) (by rw [← HN.out]; exact hjl))
                obtain ⟨b', off', hbo, hb', hcells⟩ := HK.out j (by rw [← HN.out]; exact hjl)
                injection hbo with hbo
                injection hbo with hbo1 hbo2 _
                subst hbo1
                subst hbo2
                obtain ⟨y, hy⟩ : ∃ y, y = K.getD j k0 := ⟨_, rfl⟩
                rw [← hy] at hcells
                rw [← hy] at HCS
                clear hy
                generalize (K.take j).count x = cx at *
                have hcx := HCX.out
                have c0 : wr.cell? ⟨b, off + k * 4, none⟩ = some (.int .i64 x.1) := cell_fr fq (hcx 0 (by decide))
                have c1 : wr.cell? ⟨b, off + k * 4 + 1, none⟩ = some (.int .i64 x.2.1) := cell_fr fq (hcx 1 (by decide))
                have c2 : wr.cell? ⟨b, off + k * 4 + 2, none⟩ = some (.int .i64 x.2.2.1) := cell_fr fq (hcx 2 (by decide))
                have c3 : wr.cell? ⟨b, off + k * 4 + 3, none⟩ = some (.int .i64 x.2.2.2) := cell_fr fq (hcx 3 (by decide))
                have d0 : wr.cell? ⟨b, off + j * 4, none⟩ = some (.int .i64 y.1) := cell_fr fq (hcells 0 (by decide))
                have d1 : wr.cell? ⟨b, off + j * 4 + 1, none⟩ = some (.int .i64 y.2.1) := cell_fr fq (hcells 1 (by decide))
                have d2 : wr.cell? ⟨b, off + j * 4 + 2, none⟩ = some (.int .i64 y.2.2.1) := cell_fr fq (hcells 2 (by decide))
                have d3 : wr.cell? ⟨b, off + j * 4 + 3, none⟩ = some (.int .i64 y.2.2.2) := cell_fr fq (hcells 3 (by decide))
                have hacc : Fr (fun _ => False) wB wr := hfq
                clear hcells hcx fq
                go_wp2_with fail
                go_region_held3 (fun w' => w'.cell? ⟨b, off + k * 4, none⟩ = some (.int .i64 x.1) ∧ w'.cell? ⟨b, off + k * 4 + 1, none⟩ = some (.int .i64 x.2.1) ∧ w'.cell? ⟨b, off + k * 4 + 2, none⟩ = some (.int .i64 x.2.2.1) ∧ w'.cell? ⟨b, off + k * 4 + 3, none⟩ = some (.int .i64 x.2.2.2) ∧ w'.cell? ⟨b, off + j * 4, none⟩ = some (.int .i64 y.1) ∧ w'.cell? ⟨b, off + j * 4 + 1, none⟩ = some (.int .i64 y.2.1) ∧ w'.cell? ⟨b, off + j * 4 + 2, none⟩ = some (.int .i64 y.2.2.1) ∧ w'.cell? ⟨b, off + j * 4 + 3, none⟩ = some (.int .i64 y.2.2.2))
                  (first | exact ⟨c0, c1, c2, c3, d0, d1, d2, d3⟩ | exact ⟨cell_fr h5 c0, cell_fr h5 c1, cell_fr h5 c2, cell_fr h5 c3, cell_fr h5 d0, cell_fr h5 d1, cell_fr h5 d2, cell_fr h5 d3⟩)
                  (first
                    | (go_at_call 15; with_reducible refine (keys_any _ _ _ _ _ _ _ _ _).mono ?_; rintro e w5 ⟨rfl, h5⟩; have hacc := hacc.drew.trans h5))
                all_goals
                  clear c0 c1 c2 c3 d0 d1 d2 d3
                  rw [kcmp_eq]
                  by_cases hyx : y = x
                  · have hd : decide (y = x) = true := decide_eq_true hyx
                    rw [hd]
                    have HYX := hid hyx
                    clear hyx hd
                    go_wp2_with fail
                    go_roundw
                    case rel => exact ⟨j + 1, by omega, by go_num, by rw [HCS.out, if_pos HYX.out]; go_num, hacc⟩
                    case measure => simp [intOf]; omega
                  · have hd : decide (y = x) = false := decide_eq_false hyx
                    rw [hd]
                    have HYX := hid hyx
                    clear hyx hd
                    go_wp2_with fail
                    go_roundw
                    case rel => exact ⟨j + 1, by omega, by go_num, by rw [HCS.out, if_neg HYX.out, Nat.add_zero], hacc⟩
                    case measure => simp [intOf]; omega
              · have hjn : n = j := by omega
                have htk : K.take j = K := by rw [← hjn, HN.out, List.take_length]
                rw [htk] at hcj ⊢
                clear htk
                subst hjn
                have hMr := HMA.out.keep (hf.trans hfq) (fun h => h)
                have hlk := fun W hW => look_any keyKey Try.underlying35 zero_int hMr x W hW
                have hcg := countOk_get HCA.out x
                rw [hcg] at hlk
                clear hcg hMr
                generalize K.count x = cx at *
                have hdr : ∀ W : World, W.drew.heap = W.heap := fun _ => rfl
                simp only [kv] at hlk
                have hcx := HCX.out
                have c0 : wr.cell? ⟨b, off + k * 4, none⟩ = some (.int .i64 x.1) := cell_fr fq (hcx 0 (by decide))
                have c1 : wr.cell? ⟨b, off + k * 4 + 1, none⟩ = some (.int .i64 x.2.1) := cell_fr fq (hcx 1 (by decide))
                have c2 : wr.cell? ⟨b, off + k * 4 + 2, none⟩ = some (.int .i64 x.2.2.1) := cell_fr fq (hcx 2 (by decide))
                have c3 : wr.cell? ⟨b, off + k * 4 + 3, none⟩ = some (.int .i64 x.2.2.2) := cell_fr fq (hcx 3 (by decide))
                have fE := hf.trans hfq
                clear hcx fq hfq hf
                go_wp2_with fail
                go_roundw
                case rel => exact ⟨k + 1, by omega, by go_num, fE⟩
                case measure => simp [intOf]; omega
          · have hkn : n = k := by omega
            have hMr := HMA.out.keep hf (fun h => h)
            obtain ⟨es, clock, hB, hes, _⟩ := hMr
            have hsz : es.size = c := by
              have := congrArg List.length hes
              simp at this
              rw [this, HML.out]
            clear hes
            have hlen : (Builtin.len_ #[35] 3 #[.map (some B)]).run Try.prog wB = .ok (.int .i64 (c : Int)) wB := by
              have := run_len_map (P := Try.prog) (w := wB) 35 3 B es clock Try.underlying35 hB
              rw [this, hsz]; rfl
            clear hB hsz
            subst hkn
            go_wp2_with fail
            go_ret
            exact ⟨rfl, fB.below (Nat.le_refl _) (fun _ h => h.elim)⟩
end Go.Proofs.Ytfhhcbacnlakiaa
