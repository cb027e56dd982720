/-
  THE WALK OF CommitRound. Conditions: entries that came in.
-/
import Derived.Test.YtecngibenlcdiaaCmR1
import Derived.Deep.CutRange
namespace Go.Proofs.Ytecngibenlcdiaa
open Go.RowKit Go.ChangeShapes Go.WideShapes Go.Deep

set_option linter.unusedSimpArgs false
theorem and510 (p : Int) : ∃ q : Nat, bits .and .i64 p 510 = (q : Int) ∧ q < 512 ∧ q % 2 = 0 := ⟨mN p, mN_and p, mN_lt p, mN_even p⟩
theorem nz_all : ((List.range 512).all fun m => m % 2 == 1 || m == 0 || decide (0 < (lst (m : Int) 8).length)) = true := by kernel_rfl
theorem lst_pos {q : Nat} (h : q < 512) (h2 : q % 2 = 0) (h0 : q ≠ 0) : 0 < (lst (q : Int) 8).length := by
  have := List.all_eq_true.1 nz_all q (List.mem_range.2 h)
  simpa [h2, h0] using this
theorem step_build_one {P : Program} {w : World} {ops : Array Oper} {o : Oper} {a : Act} {Q : Exit → Act → World → Prop} {K : Act → World → Prop} {E : Prop} (hgd : o.guard = none) (t : TypeId) (x : Operand) (ho : o.op = .buildSlice t 1 #[(0, x)]) {elem : TypeId} {n : Nat} (ht : P.underlying t = some (.slice elem)) (hT : AggT P elem n) (h0 : 0 < n) (hb : n ≤ 1000) {zs : Array Value} (hz : ∀ W, (zeroValue elem).run P W = .ok (.agg zs) W) (cs : Array Value) (hn : cs.size = n) (hx : a.eval x = .agg cs)
    (h : ∀ b w', b = w.heap.size → Blk w' b cs elem → Fr (fun _ => False) w w' → w'.heap.size = b + 1 → K (a.put o.dst (.slice (some ⟨b, 0, none⟩) 1 1)) w') : if Region.wanted o (yielded ops a.tmps) = true then Oper.wp P o a w K Q else E := by
  have hw : Region.wanted o (yielded ops a.tmps) = true := by simp [Region.wanted, hgd]
  rw [if_pos hw]
  have hrun := run_buildSlice_one (w := w) ht hT.size h0 hb (hz w) cs hn
  unfold Oper.wp execOp
  simp [ho, hx, hrun, Result.andThen]
  exact h _ _ rfl (Blk.new _ _ _) ((Fr.refl _ _).alloc _) (by simp)
theorem getD_mem {L : List Ent} {i : Nat} (h : i < L.length) : L.getD i ez = L[i] := by simp [List.getD_eq_getElem?_getD, h]
theorem src_one {w : World} {b : Nat} {y : Ent} (h : Blk w b #[.int .i64 y.n, .int .i64 y.s, .int .i64 y.r, .int .i64 y.a, .int .i64 y.h, .int .i64 y.c] 28) : ∀ j u, (ents [y])[j]? = some u → w.cell? ((⟨b, 0, none⟩ : Addr).add j) = some u := by
  intro j u hu
  rw [Addr.add_lit, Nat.zero_add]
  exact h.cell j (by simpa [ents, Ent.cells] using hu)

/-- How things lie at so many hops. -/
def RS (q : Nat) (l0 : Int) (n d gv vc : Nat) (E : List Ent) (w0 w : World) (hop : Nat) : Prop := ∃ a cap, Blk w d #[.int .i64 1001, .int .i64 l0, .int .i64 (q : Int), .int .i64 (hop : Int), .slice a (E.take hop).length cap] 26 ∧
  w.ownsRow 0 28 6 (.slice a (E.take hop).length cap) (E.take hop).length (ents (E.take hop)) ∧ w.ownsRow 0 28 6 (.slice (some ⟨gv, 0, none⟩) n vc) n (ents E) ∧ Fr (fun _ => False) w0 w

set_option maxRecDepth 100000 in
set_option maxHeartbeats 4000000 in
theorem round_any (members : Int) (l : Value) (w : World) (hl : InEs w l) : Calls Try.prog 5 #[.int .i64 members, l] w fun e w' => e = .returned (.bool true) ∧ Fr (fun _ => False) w w' := by
  obtain ⟨I, hI, hwf⟩ := hl
  obtain ⟨ia, ic, rfl, hi1, hi2⟩ := hI.len
  obtain ⟨q0, hq, hq1, hq2⟩ := and510 members
  obtain ⟨q, hqq⟩ : ∃ q : Nat, q = if q0 = 0 then 2 else q0 := ⟨_, rfl⟩
  have HQ : Hid (q < 512 ∧ q % 2 = 0 ∧ q ≠ 0) := hid (by rw [hqq]; split <;> omega)
  have HI := hid hI
  have HWF := hid hwf
  obtain ⟨IN, hIN⟩ : ∃ N, N = I.length := ⟨_, rfl⟩
  rw [← hIN] at HI hi1 ⊢
  have HIN := hid hIN
  clear hI hwf hIN
  go_enter Try.func5, Try.ntmps5
  go_wp2_with fail
  refine (awake_any w).mono ?_
  rintro e w1 ⟨rfl, f1⟩
  have HF1 := hid f1
  clear f1
  go_upto_if 25 with (fail)
  go_cut [0] from 20 to 25 (fun x wx => wx = w1 ∧ x = .int .i64 (q : Int))
  case first =>
    by_cases h0 : q0 = 0
    · have hz : ((q0 : Int) == 0) = true := by simp [h0]
      have hz2 : decide ((q0 : Int) = 0) = true := by simp [h0]
      have hq2' : q = 2 := by rw [hqq, if_pos h0]
      clear hqq h0
      go_wp2_with fail
      go_meet
      case rel => exact ⟨rfl, by rw [hq2']; rfl⟩
    · have hz : ((q0 : Int) == 0) = false := by simp [h0]
      have hz2 : decide ((q0 : Int) = 0) = false := by simp [h0]
      have hq2' : q = q0 := by rw [hqq, if_neg h0]
      clear hqq h0
      go_wp2_with fail
      go_meet
      case rel => exact ⟨rfl, by rw [hq2']⟩
  case rest =>
    obtain ⟨hwc, rfl⟩ := hcut
    subst hwc
    clear hq hq1 hq2 hqq
    have HLI := hid (fun z hz => lst_in (q : Int) 8 (by omega) z hz)
    have HLL := hid (lst_len (q : Int) 8)
    have HLP := hid (lst_pos HQ.out.1 HQ.out.2.1 HQ.out.2.2)
    go_wp2_with fail
    refine (clist_any (q : Int) wc).mono ?_
    rintro e w2 ⟨u, rfl, hr2, f2, _⟩
    have HF2 := hid (HF1.out.trans f2)
    have HV2 := hid (HI.out.keep0 HF2.out)
    obtain ⟨uo, uc, rfl, hu1, hu2, _, hu3⟩ := row_form hr2
    obtain ⟨g, rfl, _, _, _⟩ := hu3 0 HLP.out
    have HU : Hid (∀ j, j < (lst (q : Int) 8).length → w2.cell? ⟨g, j, none⟩ = some (.int .i64 ((lst (q : Int) 8).getD j 0))) := hid (fun j hj => by
      obtain ⟨g', hg', _, h1, _⟩ := hu3 j hj
      obtain rfl : g = g' := by injection hg' with e; injection e
      rw [h1, ints_get hj])
    have HGW : Hid (g < w2.heap.size) := hid (World.block_lt_of_cell? w2 _ (HU.out 0 HLP.out))
    clear f2 hr2 hu3
    obtain ⟨n, hn⟩ : ∃ n, n = (lst (q : Int) 8).length := ⟨_, rfl⟩
    rw [← hn] at HU HLL HLP hu1 ⊢
    have hn8 : n ≤ 8 := HLL.out
    have hnp : 0 < n := HLP.out
    have HN := hid hn
    clear hn
    go_wp2_with fail
    go_loopw [7, 8, 9, 10] (fun v t i _ wr => ∃ k : Nat, k ≤ n ∧ i = .int .i64 k ∧ ∃ E : List Ent, E.length = k ∧ wr.ownsRow 0 28 6 v k (ents E) ∧ Above w2.heap.size (footOf v) ∧ t = .int .i64 (topV E) ∧ (∀ j, j < k → (E.getD j ez).n = (lst (q : Int) 8).getD j 0 ∧ okE (E.getD j ez) = true ∧ (E.getD j ez).c ≤ 9007199254740990) ∧ Fr (fun _ => False) w2 wr) (fun _ _ i _ _ => n - (intOf i).toNat)
    case atStart => exact ⟨0, Nat.zero_le _, rfl, [], rfl, World.ownsRow_nil _ _ _ _, (fun k hk => by simp [footOf, Value.ownBlock] at hk), rfl, (fun j hj => by omega), Fr.refl _ _⟩
    case round =>
      obtain ⟨k, hk, rfl, E, hE, hr, hab, rfl, hent, hf⟩ := hrel
      have HR := hid hr
      have HAB := hid hab
      have HEE := hid hent
      clear hr hab hent
      by_cases hlt : k < n
      · obtain ⟨va, vc, rfl⟩ := rowN_shape HR.out
        have HFF := hid hf
        have hgk := cell_fr hf (HU.out k hlt)
        obtain ⟨lk, hlk⟩ : ∃ lk, lk = (lst (q : Int) 8).getD k 0 := ⟨_, rfl⟩
        rw [← hlk] at hgk
        have HLK := hid hlk
        have PG : Hid (∀ W, Fr (fun _ => False) wr W → W.cell? ⟨g, k, none⟩ = some (.int .i64 lk)) := hid (fun W f => cell_fr f hgk)
        clear hlk hgk hf
        go_wp2_with (refine wpList_new rfl 28 rfl #[.int .i64 0, .int .i64 0, .int .i64 0, .int .i64 0, .int .i64 0, .int .i64 0] zeroEnt ?_)
        intro z w3 hz B3 f3 z3
        have hzr : wr.heap.size ≤ z := by rw [hz]; exact Nat.le_refl _
        clear hz z3
        go_wp2_with (refine wpList_store_part rfl 28 _ _ rfl aggEnt z 0 rfl B3 (.agg #[.int .i64 0, .int .i64 0, .int .i64 0, .int .i64 0, .int .i64 0, .int .i64 0]) rfl rfl (Ent.one ez) (by decide) #[.int .i64 0, .int .i64 0, .int .i64 0, .int .i64 0, .int .i64 0, .int .i64 0] rfl ?_)
        intro w4 B4 f4 z4
        have HG4 := hid (((Fr.refl (fun _ => False) wr).trans f3).into f4 hzr)
        have HB4 := hid B4
        clear B3 f3 f4 z4 B4
        go_upto_if 38 with (fail)
        go_cut [] from 36 to 45 (fun wx => ∃ x : Ent, Blk wx z #[.int .i64 x.n, .int .i64 x.s, .int .i64 x.r, .int .i64 x.a, .int .i64 x.h, .int .i64 x.c] 28 ∧ wfE x ∧ Fr (fun _ => False) wr wx)
        case first =>
          by_cases h0 : IN = 0
          · subst h0
            go_wp2_with fail
            go_meet
            case rel => exact ⟨ez, HB4.out, ⟨⟨by decide, by decide⟩, ⟨by decide, by decide⟩, ⟨by decide, by decide⟩, ⟨by decide, by decide⟩, ⟨by decide, by decide⟩, ⟨by decide, by decide⟩⟩, HG4.out⟩
          · have hd0 : decide (0 < IN) = true := decide_eq_true (by omega)
            have hd1 : 0 < IN := by omega
            obtain ⟨j, hj⟩ : ∃ j : Nat, j = k % IN := ⟨_, rfl⟩
            have hjI : j < IN := by rw [hj]; exact Nat.mod_lt _ (by omega)
            have hem : (k : Int) % (IN : Int) = (j : Int) := by rw [hj, emod_nat (Int.natCast_nonneg k)]; rfl
            have htm : (k : Int).tmod (IN : Int) = (j : Int) := by rw [Int.tmod_eq_emod_of_nonneg (Int.natCast_nonneg k)]; exact hem
            have hnz : decide ((IN : Int) = 0) = false := decide_eq_false (fun e => h0 (Int.ofNat_eq_zero.1 e))
            obtain ⟨b, off, rfl, hb, q0', q1, q2, q3, q4, q5⟩ := (((HV2.out).keep0 HFF.out).keep0 HG4.out).at (i := j) (by rw [← HIN.out]; exact hjI)
            have hwx : wfE (I.getD j ez) := HWF.out _ (by
              rw [getD_mem (show j < I.length by rw [← HIN.out]; exact hjI)]
              exact List.getElem_mem _)
            generalize I.getD j ez = x at *
            obtain ⟨xn, xs, xr, xa, xh, xc⟩ := x
            have HWX := hid hwx
            clear hj h0 hwx
            simp only at q0' q1 q2 q3 q4 q5
            have B4 := HB4.out
            go_wp2_with (refine wpList_store_part rfl 28 _ _ rfl aggEnt z 0 rfl B4 (.agg #[.int .i64 xn, .int .i64 xs, .int .i64 xr, .int .i64 xa, .int .i64 xh, .int .i64 xc]) rfl rfl (Ent.one ⟨xn, xs, xr, xa, xh, xc⟩) (by decide) #[.int .i64 xn, .int .i64 xs, .int .i64 xr, .int .i64 xa, .int .i64 xh, .int .i64 xc] rfl ?_)
            intro w5 B5 f5 z5
            have HG5 := hid (HG4.out.into f5 hzr)
            clear f5 z5 htm hem q0' q1 q2 q3 q4 q5
            go_wp2_with fail
            go_meet
            case rel => exact ⟨⟨xn, xs, xr, xa, xh, xc⟩, B5, HWX.out, HG5.out⟩
        case rest =>
          obtain ⟨⟨xn, xs, xr, xa, xh, xc⟩, hB5, hwx, hG5⟩ := hcut
          have HB5 : Hid (Blk wc z #[.int .i64 xn, .int .i64 xs, .int .i64 xr, .int .i64 xa, .int .i64 xh, .int .i64 xc] 28) := hid hB5
          have HWX := hid hwx
          have HF6 := hid (HFF.out.trans hG5)
          have HR6 := hid (row_keep HR.out hG5 (fun _ _ h => h))
          have HG6 := hid hG5
          clear hB5 hwx hG5
          have HEN := hid (fun W => entry_any ⟨xn, xs, xr, xa, xh, xc⟩ lk W HWX.out)
          have PX : Hid (∀ W, Fr (fun _ => False) wc W → Blk W z #[.int .i64 xn, .int .i64 xs, .int .i64 xr, .int .i64 xa, .int .i64 xh, .int .i64 xc] 28 ∧ W.cell? ⟨g, k, none⟩ = some (.int .i64 lk)) := hid (fun W f => ⟨HB5.out.keep f (fun h => h), PG.out _ (HG6.out.trans f)⟩)
          have PX2 : Hid (∀ W W', Fr (fun _ => False) wc W → Fr (· ∈ footOf (.slice va k vc)) W W' → Blk W' z #[.int .i64 xn, .int .i64 xs, .int .i64 xr, .int .i64 xa, .int .i64 xh, .int .i64 xc] 28 ∧ W'.cell? ⟨g, k, none⟩ = some (.int .i64 lk)) := hid (fun W W' f f2 => by
            obtain ⟨h1, h2⟩ := PX.out W f
            refine ⟨h1.keep f2 (fun hk => by have := row_live HR.out z hk; omega), ?_⟩
            rw [← h2]
            exact World.cell?_of_block (f2.block g (World.block_lt_of_cell? W _ h2) (fun hk => by have := HAB.out g hk; have := HGW.out; omega)))
          obtain ⟨eI, hi9, i91, i92, i93⟩ := entI
          go_wp2_with fail
          refine wp_region_held_drew (S := fun W => Blk W z #[.int .i64 xn, .int .i64 xs, .int .i64 xr, .int .i64 xa, .int .i64 xh, .int .i64 xc] 28 ∧ W.cell? ⟨g, k, none⟩ = some (.int .i64 lk)) (by kernel_rfl) (PX.out _ (Fr.refl _ _).drew) (fun hHeld => ?_)
          refine wpAnyH_take (i := 0) (v := ?_) rfl (by kernel_rfl) (by kernel_rfl) (by kernel_rfl) (fun _ _ _ h => h) (Or.inl ⟨by rfl, ?_⟩) hHeld ?_
          rotate_left 1
          · (intro w hSw; (try dsimp only at hSw); go_simp <;> with_reducible rfl)
          try simp only [Act.put, List.setIfInBounds_toArray, List.set_cons_zero, List.set_cons_succ, List.getElem_toArray, List.getElem_cons_succ, List.getElem_cons_zero]
          refine wpAnyH_take (i := 1) (v := .agg #[.int .i64 xn, .int .i64 xs, .int .i64 xr, .int .i64 xa, .int .i64 xh, .int .i64 xc]) rfl (by kernel_rfl) (by kernel_rfl) (by kernel_rfl) (fun _ _ _ h => h) (yields_load_part (by rfl) 28 (.tmp 10) (by rfl) aggEnt z 0 (by rfl) (fun W h => h.1) #[.int .i64 xn, .int .i64 xs, .int .i64 xr, .int .i64 xa, .int .i64 xh, .int .i64 xc] (by rfl) (by rfl)) hHeld ?_
          try simp only [Act.put, List.setIfInBounds_toArray, List.set_cons_zero, List.set_cons_succ, List.getElem_toArray, List.getElem_cons_succ, List.getElem_cons_zero]
          refine wpAnyH_take (i := 2) (v := ?_) rfl (by kernel_rfl) (by kernel_rfl) (by kernel_rfl) (fun _ _ _ h => h) (Or.inl ⟨by rfl, ?_⟩) hHeld ?_
          rotate_left 1
          · (intro w hSw; (try dsimp only at hSw); go_simp <;> with_reducible rfl)
          try simp only [Act.put, List.setIfInBounds_toArray, List.set_cons_zero, List.set_cons_succ, List.getElem_toArray, List.getElem_cons_succ, List.getElem_cons_zero]
          refine wpAnyH_take (i := 3) (v := ?_) rfl (by kernel_rfl) (by kernel_rfl) (by kernel_rfl) (fun _ _ _ h => h) (Or.inl ⟨by rfl, ?_⟩) hHeld ?_
          rotate_left 1
          · (intro w hSw; (try dsimp only at hSw); go_simp <;> with_reducible rfl)
          try simp only [Act.put, List.setIfInBounds_toArray, List.set_cons_zero, List.set_cons_succ, List.getElem_toArray, List.getElem_cons_succ, List.getElem_cons_zero]
          refine wpAnyH_take (i := 4) (v := ?_) rfl (by kernel_rfl) (by kernel_rfl) (by kernel_rfl) (fun _ _ _ h => h) (Or.inl ⟨by rfl, ?_⟩) hHeld ?_
          rotate_left 1
          · (intro w hSw; (try dsimp only at hSw); go_simp <;> with_reducible rfl)
          try simp only [Act.put, List.setIfInBounds_toArray, List.set_cons_zero, List.set_cons_succ, List.getElem_toArray, List.getElem_cons_succ, List.getElem_cons_zero]
          refine wpAnyH_take (i := 5) (v := ?_) rfl (by kernel_rfl) (by kernel_rfl) (by kernel_rfl) (fun _ _ _ h => h) (Or.inl ⟨by rfl, ?_⟩) hHeld ?_
          rotate_left 1
          · (intro w hSw; (try dsimp only at hSw); go_simp <;> with_reducible rfl)
          try simp only [Act.put, List.setIfInBounds_toArray, List.set_cons_zero, List.set_cons_succ, List.getElem_toArray, List.getElem_cons_succ, List.getElem_cons_zero]
          refine wpAnyH_ready (rs := [6]) (by kernel_rfl) (by simp) ?_
          refine AllReadyH.cons rfl (fun K hK => ?_) AllReadyH.nil
          clear hHeld
          go_simp
          go_at_call 26
          refine (HEN.out _).mono ?_
          rintro e w7 ⟨⟨yn, ys, yr, ya, yh, yc⟩, rfl, hy1, hy2, hy3, f7⟩
          have hacc := (Fr.refl (fun _ => False) wc).drew.trans f7
          clear f7
          simp only [Ent.agg]
          refine hK.out _ _ (PX.out _ hacc) (fun hHeld => ?_)
          clear hK K
          try simp only [Act.put, List.setIfInBounds_toArray, List.set_cons_zero, List.set_cons_succ, List.getElem_toArray, List.getElem_cons_succ, List.getElem_cons_zero]
          refine wpAnyH_ready (rs := [7]) (by kernel_rfl) (by simp) ?_
          refine AllReadyH.cons rfl (fun K hK => ?_) AllReadyH.nil
          clear hHeld
          refine step_build_one (by rfl) 24 (.tmp 52) (by rfl) Try.underlying24 aggEnt (by decide) (by decide) zeroEnt #[.int .i64 yn, .int .i64 ys, .int .i64 yr, .int .i64 ya, .int .i64 yh, .int .i64 yc] (by rfl) (by rfl) ?_
          intro b8 w8 hb8 B8 f8 _
          have hacc := hacc.trans f8
          clear hb8 f8
          refine hK.out _ _ (PX.out _ hacc) (fun hHeld => ?_)
          clear hK K
          try simp only [Act.put, List.setIfInBounds_toArray, List.set_cons_zero, List.set_cons_succ, List.getElem_toArray, List.getElem_cons_succ, List.getElem_cons_zero]
          refine wpAnyH_ready (rs := [8]) (by kernel_rfl) (by simp) ?_
          refine AllReadyH.cons rfl (fun K hK => ?_) AllReadyH.nil
          clear hHeld
          refine step_append_row (by rfl) (.tmp 46) (.tmp 53) 24 (by rfl) 28 eI _ 6 48 Try.underlying24 hi9 i91 i92 i93 (by rfl) (by decide) (.slice va k vc) k (ents E) (by rfl) (row_keep HR6.out hacc (fun _ _ h => h)) ⟨b8, 0, none⟩ 1 1 (ents [⟨yn, ys, yr, ya, yh, yc⟩]) (by rfl) (by rfl) (src_one B8) (ents_one _) (by unfold maxLen; omega) (by omega) ?_
          intro v' w9 hr9 f9 g9 _
          have hx9 := PX2.out _ _ hacc f9
          refine hK.out _ _ (hx9) (fun hHeld => ?_)
          clear hK K
          try simp only [Act.put, List.setIfInBounds_toArray, List.set_cons_zero, List.set_cons_succ, List.getElem_toArray, List.getElem_cons_succ, List.getElem_cons_zero]
          refine wpAnyH_take (i := 9) (v := ?_) rfl (by kernel_rfl) (by kernel_rfl) (by kernel_rfl) (fun _ _ _ h => h) (Or.inl ⟨by rfl, ?_⟩) hHeld ?_
          rotate_left 1
          · (intro w hSw; (try dsimp only at hSw); go_simp <;> with_reducible rfl)
          try simp only [Act.put, List.setIfInBounds_toArray, List.set_cons_zero, List.set_cons_succ, List.getElem_toArray, List.getElem_cons_succ, List.getElem_cons_zero]
          refine wpAnyH_done (by kernel_rfl) ?_ _
          clear hHeld
          have HF8 := hid (HF6.out.trans hacc)
          have HF9 := hid (HF8.out.own f9 HAB.out)
          have HA9 := hid (HAB.out.grows g9 HF8.out.size)
          have HY := hid (⟨hy1, hy2, hy3⟩ : yn = lk ∧ okE ⟨yn, ys, yr, ya, yh, yc⟩ = true ∧ yc ≤ 9007199254740990)
          obtain ⟨gv, vc', rfl, hgv, hgc, hgm⟩ := rowN_some hr9 (by omega)
          have q5 : w9.cell? ⟨gv, k * 6 + 5, none⟩ = some (.int .i64 yc) := rowN_cell hr9 _ _ (by rw [List.getElem?_append_right (by rw [ents_len, hE]; omega), ents_len, hE, show k * 6 + 5 - k * 6 = 5 by omega]; rfl)
          have HR9 := hid hr9
          obtain ⟨tp, htp⟩ : ∃ tp, (if topV E < yc then yc else topV E) = tp := ⟨_, rfl⟩
          have HTP : Hid (topV (E ++ [⟨yn, ys, yr, ya, yh, yc⟩]) = tp) := hid (by rw [topV_snoc]; exact htp)
          have HEL := hid hE
          generalize topV E = tv at *
          clear hr9 f9 g9 hacc hx9 hE hy1 hy2 hy3 B8 eI hi9 i91 i92 i93
          go_wp2_with fail
          go_roundw
          case rel =>
            refine ⟨k + 1, by omega, by go_num, E ++ [⟨yn, ys, yr, ya, yh, yc⟩], by simp [HEL.out], by rw [ents_append]; exact HR9.out, HA9.out, by rw [HTP.out], fun j hj => ?_, HF9.out⟩
            by_cases hjk : j < k
            · rw [show (E ++ [(⟨yn, ys, yr, ya, yh, yc⟩ : Ent)]).getD j ez = E.getD j ez by simp only [List.getD_eq_getElem?_getD]; rw [List.getElem?_append_left (by rw [HEL.out]; exact hjk)]]
              exact HEE.out j hjk
            · obtain rfl : j = k := by omega
              rw [show (E ++ [(⟨yn, ys, yr, ya, yh, yc⟩ : Ent)]).getD j ez = ⟨yn, ys, yr, ya, yh, yc⟩ by simp only [List.getD_eq_getElem?_getD]; rw [List.getElem?_append_right (by rw [HEL.out]; exact Nat.le_refl _), HEL.out, Nat.sub_self]; rfl]
              obtain ⟨h1, h2, h3⟩ := HY.out
              exact ⟨by rw [← HLK.out]; exact h1, h2, h3⟩
          case measure => simp [intOf]; omega
      · obtain hkn : n = k := by omega
        subst hkn
        have HRD : Hid (RD q E) := hid ⟨HQ.out.1, HQ.out.2.1, by rw [hE, HN.out], by rw [hE]; exact HLP.out, fun i hi => HEE.out i (by rw [← hE]; exact hi)⟩
        have HEL := hid hE
        have HOK : Hid (∀ hop, 1 ≤ hop → hop ≤ 2 * n → okC (CR q E hop) = true) := hid (fun hop h1 h2 => cr_ok HRD.out h1 (by rw [HEL.out]; exact h2))
        have HVIS : Hid (∀ hop (node : Int), 1 ≤ hop → hop ≤ 2 * n → visV (CR q E hop) node = if (lst (q : Int) 8).getD (hop % n) 0 = node then wantV hop n else 0) := hid (fun hop node h1 h2 => by have := cr_vis HRD.out h1 (by rw [HEL.out]; exact h2) node; rw [HEL.out] at this; exact this)
        have HADD : Hid (∀ hop, 1 ≤ hop → hop < n → addOk (CR q E hop) (E.getD hop ez) = true ∧ more (CR q E hop) [E.getD hop ez] = CR q E (hop + 1)) := hid (fun hop h1 h2 => cr_add HRD.out h1 (by rw [HEL.out]; exact h2))
        have HPASS : Hid (∀ hop, n ≤ hop → hop < 2 * n → passOk (CR q E hop) = true ∧ more (CR q E hop) [] = CR q E (hop + 1)) := hid (fun hop h1 h2 => cr_pass HRD.out (by rw [HEL.out]; exact h1) (by rw [HEL.out]; exact h2))
        have HLAST : Hid (passOk (CR q E (2 * n)) = false) := hid (by have := cr_last HRD.out; rw [HEL.out] at this; exact this)
        have HST : Hid (∀ hop, n ≤ hop → hop ≤ 2 * n → stampV (CR q E hop) = topV E + 1) := hid (fun hop h1 h2 => cr_stamp HRD.out (by rw [HEL.out]; exact h1) (by rw [HEL.out]; exact h2))
        have HTB := hid (top_bd (rd_clock HRD.out))
        have HF2r := hid hf
        obtain ⟨gv, vc, rfl, hgv, hgc, hgm⟩ := rowN_some HR.out hnp
        have hx0 : (E.getD 0 ez) = E.getD 0 ez := rfl
        obtain ⟨x0, hx0⟩ : ∃ x0, x0 = E.getD 0 ez := ⟨_, rfl⟩
        obtain ⟨l0, hl0⟩ : ∃ l0, l0 = (lst (q : Int) 8).getD 0 0 := ⟨_, rfl⟩
        have hE1 : E.take 1 = [x0] := by
          rw [hx0]
          cases E with
          | nil => simp at hE; omega
          | cons a r => rfl
        have HNEW : Hid (∀ W, Calls Try.prog 9 #[.agg #[.int .i64 1001, .int .i64 l0], .int .i64 (q : Int), .agg #[.int .i64 x0.n, .int .i64 x0.s, .int .i64 x0.r, .int .i64 x0.a, .int .i64 x0.h, .int .i64 x0.c]] W fun e w' => ∃ a cap, e = .returned (.tuple #[.agg #[.int .i64 1001, .int .i64 l0, .int .i64 (q : Int), .int .i64 1, .slice a 1 cap], .int .i64 0]) ∧ w'.ownsRow 0 28 6 (.slice a 1 cap) 1 (ents [x0]) ∧ Above W.heap.size (footOf (.slice a 1 cap)) ∧ Fr (fun _ => False) W w') := hid (fun W => (new_any 1001 l0 q x0 W).mono fun e w' ⟨v, he, hr, hf⟩ => by
          obtain ⟨a, cap, rfl⟩ := rowN_shape hr.1
          have h : okC (newC 1001 l0 q x0) = true := by
            have := HOK.out 1 (by omega) (by omega)
            unfold CR at this
            rw [hE1, ← hl0] at this
            exact this
          rw [h] at he
          exact ⟨a, cap, he, hr.1, hr.2, hf⟩)
        have hc0 : ∀ i j, i < n → j < 6 → wr.cell? ⟨gv, i * 6 + j, none⟩ = (E.getD i ez).cells[j]? := fun i j hi hj => by
          have h1 := ents_at (L := E) (i := i) (j := j) (by rw [hE]; exact hi) hj
          have hlt : i * 6 + j < (ents E).length := by rw [ents_len, hE]; omega
          rw [← h1, List.getElem?_eq_getElem hlt]
          exact rowN_cell HR.out _ _ (List.getElem?_eq_getElem hlt)
        have HC0 := hid hc0
        have PB : Hid (∀ W, Fr (fun _ => False) wr W → W.cell? ⟨g, 0, none⟩ = some (.int .i64 l0) ∧ W.cell? ⟨gv, 0, none⟩ = some (.int .i64 x0.n) ∧ W.cell? ⟨gv, 1, none⟩ = some (.int .i64 x0.s) ∧ W.cell? ⟨gv, 2, none⟩ = some (.int .i64 x0.r) ∧ W.cell? ⟨gv, 3, none⟩ = some (.int .i64 x0.a) ∧ W.cell? ⟨gv, 4, none⟩ = some (.int .i64 x0.h) ∧ W.cell? ⟨gv, 5, none⟩ = some (.int .i64 x0.c)) := hid (fun W f => by
          rw [hl0, hx0]
          exact ⟨cell_fr (HF2r.out.trans f) (HU.out 0 HLP.out), cell_fr f (HC0.out 0 0 hnp (by decide)), cell_fr f (HC0.out 0 1 hnp (by decide)), cell_fr f (HC0.out 0 2 hnp (by decide)), cell_fr f (HC0.out 0 3 hnp (by decide)), cell_fr f (HC0.out 0 4 hnp (by decide)), cell_fr f (HC0.out 0 5 hnp (by decide))⟩)
        have PBS : Hid (∀ W W' d, Fr (fun _ => False) wr W → Fr (· = d) W W' → wr.heap.size ≤ d → W'.cell? ⟨g, 0, none⟩ = some (.int .i64 l0) ∧ W'.cell? ⟨gv, 0, none⟩ = some (.int .i64 x0.n) ∧ W'.cell? ⟨gv, 1, none⟩ = some (.int .i64 x0.s) ∧ W'.cell? ⟨gv, 2, none⟩ = some (.int .i64 x0.r) ∧ W'.cell? ⟨gv, 3, none⟩ = some (.int .i64 x0.a) ∧ W'.cell? ⟨gv, 4, none⟩ = some (.int .i64 x0.h) ∧ W'.cell? ⟨gv, 5, none⟩ = some (.int .i64 x0.c)) := hid (fun W W' d f f2 hd => PB.out _ (f.into f2 hd))
        have HX0 := hid hx0
        have HL0 := hid hl0
        clear hx0 hl0 hE1 hc0 hE hf
        obtain ⟨c0, c1, c2, c3, c4, c5, c6⟩ := PB.out _ (Fr.refl _ _)
        go_wp2_with fail
        clear c0 c1 c2 c3 c4 c5 c6
        refine wp_region_held_drew (S := fun W => W.cell? ⟨g, 0, none⟩ = some (.int .i64 l0) ∧ W.cell? ⟨gv, 0, none⟩ = some (.int .i64 x0.n) ∧ W.cell? ⟨gv, 1, none⟩ = some (.int .i64 x0.s) ∧ W.cell? ⟨gv, 2, none⟩ = some (.int .i64 x0.r) ∧ W.cell? ⟨gv, 3, none⟩ = some (.int .i64 x0.a) ∧ W.cell? ⟨gv, 4, none⟩ = some (.int .i64 x0.h) ∧ W.cell? ⟨gv, 5, none⟩ = some (.int .i64 x0.c)) (by kernel_rfl) (PB.out _ (Fr.refl _ _).drew) (fun hHeld => ?_)
        have hacc := (Fr.refl (fun _ => False) wr).drew
        refine wpAnyH_take (i := 0) (v := ?_) rfl (by kernel_rfl) (by kernel_rfl) (by kernel_rfl) (fun _ _ _ h => h) (Or.inl ⟨by rfl, ?_⟩) hHeld ?_
        rotate_left 1
        · (intro w hSw; (try dsimp only at hSw); go_simp <;> with_reducible rfl)
        try simp only [Act.put, List.setIfInBounds_toArray, List.set_cons_zero, List.set_cons_succ, List.getElem_toArray, List.getElem_cons_succ, List.getElem_cons_zero]
        refine wpAnyH_take (i := 1) (v := ?_) rfl (by kernel_rfl) (by kernel_rfl) (by kernel_rfl) (fun _ _ _ h => h) (Or.inl ⟨by rfl, ?_⟩) hHeld ?_
        rotate_left 1
        · (intro w hSw; (try dsimp only at hSw); go_simp <;> with_reducible rfl)
        try simp only [Act.put, List.setIfInBounds_toArray, List.set_cons_zero, List.set_cons_succ, List.getElem_toArray, List.getElem_cons_succ, List.getElem_cons_zero]
        refine wpAnyH_take (i := 2) (v := ?_) rfl (by kernel_rfl) (by kernel_rfl) (by kernel_rfl) (fun _ _ _ h => h) (Or.inl ⟨by rfl, ?_⟩) hHeld ?_
        rotate_left 1
        · (intro w hSw; (try dsimp only at hSw); go_simp <;> with_reducible rfl)
        try simp only [Act.put, List.setIfInBounds_toArray, List.set_cons_zero, List.set_cons_succ, List.getElem_toArray, List.getElem_cons_succ, List.getElem_cons_zero]
        refine wpAnyH_take (i := 3) (v := ?_) rfl (by kernel_rfl) (by kernel_rfl) (by kernel_rfl) (fun _ _ _ h => h) (Or.inl ⟨by rfl, ?_⟩) hHeld ?_
        rotate_left 1
        · (intro w hSw; (try dsimp only at hSw); go_simp <;> with_reducible rfl)
        try simp only [Act.put, List.setIfInBounds_toArray, List.set_cons_zero, List.set_cons_succ, List.getElem_toArray, List.getElem_cons_succ, List.getElem_cons_zero]
        refine wpAnyH_take (i := 4) (v := ?_) rfl (by kernel_rfl) (by kernel_rfl) (by kernel_rfl) (fun _ _ _ h => h) (Or.inl ⟨by rfl, ?_⟩) hHeld ?_
        rotate_left 1
        · (intro w hSw; (try dsimp only at hSw); go_simp <;> with_reducible rfl)
        try simp only [Act.put, List.setIfInBounds_toArray, List.set_cons_zero, List.set_cons_succ, List.getElem_toArray, List.getElem_cons_succ, List.getElem_cons_zero]
        refine wpAnyH_take (i := 5) (v := ?_) rfl (by kernel_rfl) (by kernel_rfl) (by kernel_rfl) (fun _ _ _ h => h) (Or.inl ⟨by rfl, ?_⟩) hHeld ?_
        rotate_left 1
        · (intro w hSw; (try dsimp only at hSw); go_simp <;> with_reducible rfl)
        try simp only [Act.put, List.setIfInBounds_toArray, List.set_cons_zero, List.set_cons_succ, List.getElem_toArray, List.getElem_cons_succ, List.getElem_cons_zero]
        refine wpAnyH_take (i := 6) (v := ?_) rfl (by kernel_rfl) (by kernel_rfl) (by kernel_rfl) (fun _ _ _ h => h) (Or.inl ⟨by rfl, ?_⟩) hHeld ?_
        rotate_left 1
        · (intro w hSw; (try dsimp only at hSw); go_simp <;> with_reducible rfl)
        try simp only [Act.put, List.setIfInBounds_toArray, List.set_cons_zero, List.set_cons_succ, List.getElem_toArray, List.getElem_cons_succ, List.getElem_cons_zero]
        refine wpAnyH_take (i := 7) (v := ?_) rfl (by kernel_rfl) (by kernel_rfl) (by kernel_rfl) (fun _ _ _ h => h) (Or.inl ⟨by rfl, ?_⟩) hHeld ?_
        rotate_left 1
        · (intro w hSw; (try dsimp only at hSw); go_simp <;> with_reducible rfl)
        try simp only [Act.put, List.setIfInBounds_toArray, List.set_cons_zero, List.set_cons_succ, List.getElem_toArray, List.getElem_cons_succ, List.getElem_cons_zero]
        clear hHeld
        apply forkD (F := fun d a5 p5 W => Blk W d #[.int .i64 0, .int .i64 0, .int .i64 0, .int .i64 0, .slice none 0 0] 26 ∧ W.ownsRow 0 28 6 (.slice a5 1 p5) 1 (ents [x0]) ∧ Above w2.heap.size (footOf (.slice a5 1 p5)) ∧ Fr (fun _ => False) wr W ∧ wr.heap.size ≤ d)
        · intro key
          refine wpAnyH_ready (rs := [8, 12]) (by kernel_rfl) (by simp) ?_
          refine AllReadyH.cons rfl (fun K hK => ?_) (AllReadyH.cons rfl (fun K hK => ?_) AllReadyH.nil)
          · go_simp
            go_at_call 9
            refine (HNEW.out _).mono ?_
            rintro e w5 ⟨a5, p5, rfl, hr5, ha5, f5⟩
            have hab5 : Above w2.heap.size (footOf (.slice a5 1 p5)) := fun k hk => Nat.le_trans (Nat.le_trans HF2r.out.size hacc.size) (ha5 k hk)
            have hacc := hacc.trans f5
            clear f5 ha5
            refine hK.out _ _ (PB.out _ hacc) (fun hHeld => ?_)
            clear hK K
            try simp only [Act.put, List.setIfInBounds_toArray, List.set_cons_zero, List.set_cons_succ, List.getElem_toArray, List.getElem_cons_succ, List.getElem_cons_zero]
            refine wpAnyH_take (i := 9) (v := ?_) rfl (by kernel_rfl) (by kernel_rfl) (by kernel_rfl) (fun _ _ _ h => h) (Or.inl ⟨by rfl, ?_⟩) hHeld ?_
            rotate_left 1
            · (intro w hSw; (try dsimp only at hSw); go_simp <;> with_reducible rfl)
            try simp only [Act.put, List.setIfInBounds_toArray, List.set_cons_zero, List.set_cons_succ, List.getElem_toArray, List.getElem_cons_succ, List.getElem_cons_zero]
            refine wpAnyH_take (i := 10) (v := ?_) rfl (by kernel_rfl) (by kernel_rfl) (by kernel_rfl) (fun _ _ _ h => h) (Or.inl ⟨by rfl, ?_⟩) hHeld ?_
            rotate_left 1
            · (intro w hSw; (try dsimp only at hSw); go_simp <;> with_reducible rfl)
            try simp only [Act.put, List.setIfInBounds_toArray, List.set_cons_zero, List.set_cons_succ, List.getElem_toArray, List.getElem_cons_succ, List.getElem_cons_zero]
            refine wpAnyH_take (i := 11) (v := ?_) rfl (by kernel_rfl) (by kernel_rfl) (by kernel_rfl) (fun _ _ _ h => h) (Or.inl ⟨by rfl, ?_⟩) hHeld ?_
            rotate_left 1
            · (intro w hSw; (try dsimp only at hSw); go_simp <;> with_reducible rfl)
            try simp only [Act.put, List.setIfInBounds_toArray, List.set_cons_zero, List.set_cons_succ, List.getElem_toArray, List.getElem_cons_succ, List.getElem_cons_zero]
            clear hHeld
            refine wpAnyH_ready (rs := [12]) (by kernel_rfl) (by simp) ?_
            refine AllReadyH.cons rfl (fun K hK => ?_) AllReadyH.nil
            refine step_new (by rfl) 26 (by rfl) #[.int .i64 0, .int .i64 0, .int .i64 0, .int .i64 0, .slice none 0 0] zeroCm ?_
            intro d w6 hd BD f6 z6
            have hd5 : wr.heap.size ≤ d := by rw [hd]; exact hacc.size
            have hacc := hacc.trans f6
            have hr5 := row_keep hr5 f6 (fun _ _ h => h)
            clear f6 z6 hd
            refine hK.out _ _ (PB.out _ hacc) (fun _ => ?_)
            clear hK K
            try simp only [Act.put, List.setIfInBounds_toArray, List.set_cons_zero, List.set_cons_succ, List.getElem_toArray, List.getElem_cons_succ, List.getElem_cons_zero]
            refine wpAnyH_relist (l' := #[true, true, true, true, true, true, true, true, true, true, true, true, true, false, false]) (by kernel_rfl) ?_
            exact key d a5 p5 _ ⟨BD, hr5, hab5, hacc, hd5⟩
          · refine step_new (by rfl) 26 (by rfl) #[.int .i64 0, .int .i64 0, .int .i64 0, .int .i64 0, .slice none 0 0] zeroCm ?_
            intro d w6 hd BD f6 z6
            have hd5 : wr.heap.size ≤ d := by rw [hd]; exact hacc.size
            have hacc := hacc.trans f6
            clear f6 z6 hd
            refine hK.out _ _ (PB.out _ hacc) (fun _ => ?_)
            clear hK K
            try simp only [Act.put, List.setIfInBounds_toArray, List.set_cons_zero, List.set_cons_succ, List.getElem_toArray, List.getElem_cons_succ, List.getElem_cons_zero]
            refine wpAnyH_ready (rs := [8]) (by kernel_rfl) (by simp) ?_
            refine AllReadyH.cons rfl (fun K hK => ?_) AllReadyH.nil
            go_simp
            go_at_call 9
            refine (HNEW.out _).mono ?_
            rintro e w5 ⟨a5, p5, rfl, hr5, ha5, f5⟩
            have hab5 : Above w2.heap.size (footOf (.slice a5 1 p5)) := fun k hk => Nat.le_trans (Nat.le_trans HF2r.out.size hacc.size) (ha5 k hk)
            have hacc := hacc.trans f5
            have BD := BD.keep f5 (fun h => h)
            clear f5 ha5
            refine hK.out _ _ (PB.out _ hacc) (fun hHeld => ?_)
            clear hK K
            try simp only [Act.put, List.setIfInBounds_toArray, List.set_cons_zero, List.set_cons_succ, List.getElem_toArray, List.getElem_cons_succ, List.getElem_cons_zero]
            refine wpAnyH_take (i := 9) (v := ?_) rfl (by kernel_rfl) (by kernel_rfl) (by kernel_rfl) (fun _ _ _ h => h) (Or.inl ⟨by rfl, ?_⟩) hHeld ?_
            rotate_left 1
            · (intro w hSw; (try dsimp only at hSw); go_simp <;> with_reducible rfl)
            try simp only [Act.put, List.setIfInBounds_toArray, List.set_cons_zero, List.set_cons_succ, List.getElem_toArray, List.getElem_cons_succ, List.getElem_cons_zero]
            refine wpAnyH_take (i := 10) (v := ?_) rfl (by kernel_rfl) (by kernel_rfl) (by kernel_rfl) (fun _ _ _ h => h) (Or.inl ⟨by rfl, ?_⟩) hHeld ?_
            rotate_left 1
            · (intro w hSw; (try dsimp only at hSw); go_simp <;> with_reducible rfl)
            try simp only [Act.put, List.setIfInBounds_toArray, List.set_cons_zero, List.set_cons_succ, List.getElem_toArray, List.getElem_cons_succ, List.getElem_cons_zero]
            refine wpAnyH_take (i := 11) (v := ?_) rfl (by kernel_rfl) (by kernel_rfl) (by kernel_rfl) (fun _ _ _ h => h) (Or.inl ⟨by rfl, ?_⟩) hHeld ?_
            rotate_left 1
            · (intro w hSw; (try dsimp only at hSw); go_simp <;> with_reducible rfl)
            try simp only [Act.put, List.setIfInBounds_toArray, List.set_cons_zero, List.set_cons_succ, List.getElem_toArray, List.getElem_cons_succ, List.getElem_cons_zero]
            clear hHeld
            refine wpAnyH_relist (l' := #[true, true, true, true, true, true, true, true, true, true, true, true, true, false, false]) (by kernel_rfl) ?_
            exact key d a5 p5 _ ⟨BD, hr5, hab5, hacc, hd5⟩
        · rintro d a5 p5 w5 ⟨BD5, hr5, hab5, f5, hd5⟩
          have HR5 := hid hr5
          have HAB5 := hid hab5
          clear hr5 hab5
          refine wpAnyH_ready (rs := [13]) (by kernel_rfl) (by simp) ?_
          refine AllReadyH.cons rfl (fun K hK => ?_) AllReadyH.nil
          refine step_store_part (by rfl) 26 (.tmp 11) (.tmp 72) (by rfl) aggCm d 0 (by rfl) BD5 (.agg #[.int .i64 1001, .int .i64 l0, .int .i64 (q : Int), .int .i64 1, .slice a5 1 p5]) (by rfl) rfl (one_cc 1001 l0 q 1 a5 1 p5) (by decide) #[.int .i64 1001, .int .i64 l0, .int .i64 (q : Int), .int .i64 1, .slice a5 1 p5] rfl ?_
          intro w6 B6 f6 z6
          refine hK.out _ _ (PBS.out _ _ _ f5 f6 hd5) (fun hHeld => ?_)
          clear hK K
          try simp only [Act.put, List.setIfInBounds_toArray, List.set_cons_zero, List.set_cons_succ, List.getElem_toArray, List.getElem_cons_succ, List.getElem_cons_zero]
          refine wpAnyH_take (i := 14) (v := ?_) rfl (by kernel_rfl) (by kernel_rfl) (by kernel_rfl) (fun _ _ _ h => h) (Or.inl ⟨by rfl, ?_⟩) hHeld ?_
          rotate_left 1
          · (intro w hSw; (try dsimp only at hSw); go_simp <;> with_reducible rfl)
          try simp only [Act.put, List.setIfInBounds_toArray, List.set_cons_zero, List.set_cons_succ, List.getElem_toArray, List.getElem_cons_succ, List.getElem_cons_zero]
          refine wpAnyH_done (by kernel_rfl) ?_ _
          clear hHeld
          have hdw : w2.heap.size ≤ d := Nat.le_trans HF2r.out.size hd5
          have hRS0 : RS q l0 n d gv vc E w2 w6 1 := by
            have e1 : E.take 1 = [x0] := by
              rw [HX0.out]
              cases E with
              | nil => have := HEL.out; simp at this; omega
              | cons a r => rfl
            refine ⟨a5, p5, ?_, ?_, row_into (row_keep HR.out f5 (fun _ _ h => h)) BD5 f6, (HF2r.out.trans f5).into f6 hdw⟩
            · rw [e1]; exact B6
            · rw [e1]; exact row_into HR5.out BD5 f6
          have HRS0 := hid hRS0
          clear hRS0 B6 f6 z6 f5 hd5 BD5 HR5 HAB5 PB PBS HNEW HC0
          go_wp2_with fail
          go_loopw [12, 13, 14, 15, 16, 17] (fun er i _ _ _ _ wx => er = .int .i64 0 ∧ ∃ hop : Nat, 1 ≤ hop ∧ hop ≤ 2 * n + 1 ∧ i = .int .i64 hop ∧ RS q l0 n d gv vc E w2 wx (min hop (2 * n))) (fun _ i _ _ _ _ _ => 2 * n + 1 - (intOf i).toNat)
          case atStart => exact ⟨rfl, 1, Nat.le_refl _, by omega, rfl, by rw [Nat.min_eq_left (by omega)]; exact HRS0.out⟩
          case round =>
            obtain ⟨rfl, hop, h1, h2, rfl, hRS⟩ := hrel
            by_cases hlt : hop ≤ 2 * n
            · rw [Nat.min_eq_left hlt] at hRS
              obtain ⟨a, cap, hBD, hRC, hRA, hf⟩ := hRS
              have HBD := hid hBD
              have HRA := hid hRA
              have HFO := hid hf
              have HES := hid (IsEs.of_row hRC)
              have hcv : ∀ v, cv (CR q E hop) v = .agg #[.int .i64 1001, .int .i64 l0, .int .i64 (q : Int), .int .i64 (hop : Int), v] := fun v => by unfold cv CR; rw [HL0.out]
              have HCH := hid (fun W (f : Fr (fun _ => False) wr W) => ccheck_any (CR q E hop) _ W (HES.out.keep0 f))
              have HVI := hid (fun node W (f : Fr (fun _ => False) wr W) => visit_any (CR q E hop) _ node W (HES.out.keep0 f))
              have HSP := hid (fun W (f : Fr (fun _ => False) wr W) => stamp_any (CR q E hop) _ W (HES.out.keep0 f))
              have HPS := hid (fun W (f : Fr (fun _ => False) wr W) => pass_any (CR q E hop) _ W (HES.out.keep0 f))
              have HAD := hid (fun x W (f : Fr (fun _ => False) wr W) => add_any (CR q E hop) _ x W (HES.out.keep0 f))
              have hvv := fun node => HVIS.out hop node h1 hlt
              simp only [hcv, HOK.out hop h1 hlt, if_true] at HCH
              simp only [hcv, hvv] at HVI
              simp only [hcv] at HSP HPS HAD
              obtain ⟨N, hN⟩ : ∃ N, N = (E.take hop).length := ⟨_, rfl⟩
              have hNm : N = min hop n := by rw [hN, List.length_take, HEL.out]
              rw [← hN] at HBD HES HCH HVI HSP HPS HAD
              have hN8 : N ≤ 100 := by omega
              have HN2 := hid hN
              have HNM := hid hNm
              obtain ⟨j, hj⟩ : ∃ j : Nat, j = hop % n := ⟨_, rfl⟩
              have hjn : j < n := by rw [hj]; exact Nat.mod_lt _ hnp
              have hem : (hop : Int) % (n : Int) = (j : Int) := by rw [hj, emod_nat (Int.natCast_nonneg hop)]; rfl
              have htm : (hop : Int).tmod (n : Int) = (j : Int) := by rw [Int.tmod_eq_emod_of_nonneg (Int.natCast_nonneg hop)]; exact hem
              have hnz : decide ((n : Int) = 0) = false := decide_eq_false (fun e => by rw [Int.ofNat_eq_zero.1 e] at hnp; exact absurd hnp (Nat.lt_irrefl 0))
              have hgj := cell_fr hf (HU.out j hjn)
              obtain ⟨nd, hnd⟩ : ∃ nd, nd = (lst (q : Int) 8).getD j 0 := ⟨_, rfl⟩
              rw [← hj, ← hnd] at HVI
              rw [← hnd] at hgj
              have HND := hid hnd
              have HWV : Hid (wantV hop n = if hop < n then 1 else if hop = 2 * n then 3 else 2) := hid rfl
              obtain ⟨wv, hwv⟩ : ∃ wv, wv = wantV hop n := ⟨_, rfl⟩
              rw [← hwv] at HVI HWV
              have HWE := hid hwv
              have PD : Hid (∀ W, Fr (fun _ => False) wr W → W.cell? ⟨d, 0, none⟩ = some (.int .i64 1001) ∧ W.cell? ⟨d, 1, none⟩ = some (.int .i64 l0) ∧ W.cell? ⟨d, 2, none⟩ = some (.int .i64 (q : Int)) ∧ W.cell? ⟨d, 3, none⟩ = some (.int .i64 (hop : Int)) ∧ W.cell? ⟨d, 4, none⟩ = some (.slice a N cap)) := hid (fun W f => by
                have hb := HBD.out.keep f (fun h => h)
                exact ⟨hb.cell 0 rfl, hb.cell 1 rfl, hb.cell 2 rfl, hb.cell 3 rfl, hb.cell 4 rfl⟩)
              have hwm : wrap64 (2 * (n : Int)) = 2 * (n : Int) := w64m hn8
              have HRCC : Hid (wr.ownsRow 0 28 6 (.slice a N cap) N (ents (E.take hop))) := hid (by rw [hN]; exact hRC)
              have HWV2 : Hid (wantV hop n = if hop < n then 1 else if hop = 2 * n then 3 else 2) := hid rfl
              clear hBD hRC hRA hf hcv hvv hN hj hnd hwv HRS0 hNm
              go_upto_if 90 with (fail)
              clear hem htm hgj
              go_cut [15] from 76 to 90 (fun x wx => wx = wr ∧ ∃ y : Int, x = .int .i64 y ∧ y = if hop < n then 1 else 2)
              case first =>
                by_cases hc : hop < n
                · have hd1 : decide (hop < n) = true := decide_eq_true hc
                  have HC := hid hc
                  clear hc
                  go_wp2_with fail
                  go_meet
                  case rel => exact ⟨rfl, _, rfl, by rw [if_pos HC.out]⟩
                · have hd1 : decide (hop < n) = false := decide_eq_false hc
                  have HC := hid hc
                  clear hc
                  go_wp2_with fail
                  go_meet
                  case rel => exact ⟨rfl, _, rfl, by rw [if_neg HC.out]⟩
              case rest =>
                obtain ⟨hwc, y, rfl, hy⟩ := hcut
                subst hwc
                have HYV := hid hy
                clear hy
                go_upto_if 94 with (fail)
                go_cut [15] from 76 to 94 (fun x wx => wx = wc ∧ x = .int .i64 wv)
                case first =>
                  by_cases hc : hop = 2 * n
                  · have hc3 : wv = 3 := by rw [HWV.out, if_neg (by omega), if_pos hc]
                    have hb : ((hop : Int) == 2 * (n : Int)) = true := by simp; omega
                    have hb2 : decide ((hop : Int) = 2 * (n : Int)) = true := decide_eq_true (by omega)
                    have HC3 := hid hc3
                    clear hc hc3
                    go_wp2_with fail
                    go_meet
                    case rel => exact ⟨rfl, by rw [HC3.out]⟩
                  · have hc3 : wv = if hop < n then 1 else 2 := by rw [HWV.out, if_neg hc]
                    have hb : ((hop : Int) == 2 * (n : Int)) = false := by simp; omega
                    have hb2 : decide ((hop : Int) = 2 * (n : Int)) = false := decide_eq_false (by omega)
                    have HC3 : Hid (y = wv) := hid (by rw [hc3, HYV.out])
                    clear hc hc3
                    go_wp2_with fail
                    go_meet
                    case rel => exact ⟨rfl, by rw [HC3.out]⟩
                case rest =>
                  obtain ⟨hwc2, rfl⟩ := hcut
                  subst hwc2
                  have HCE : Hid (∀ i j, i < n → j < 6 → wc.cell? ⟨gv, i * 6 + j, none⟩ = (E.getD i ez).cells[j]?) := hid (fun i j hi hj => by
                    have h1 := ents_at (L := E) (i := i) (j := j) (by rw [HEL.out]; exact hi) hj
                    have hlt : i * 6 + j < (ents E).length := by rw [ents_len, HEL.out]; omega
                    rw [← h1, List.getElem?_eq_getElem hlt]
                    exact rowN_cell HRA.out _ _ (List.getElem?_eq_getElem hlt))
                  obtain ⟨p0, p1, p2, p3, p4⟩ := PD.out _ (Fr.refl _ _)
                  go_wp2_with fail
                  with_reducible refine (HCH.out _ (Fr.refl _ _)).mono ?_
                  rintro e w3 ⟨rfl, f3⟩
                  clear p0 p1 p2 p3 p4
                  obtain ⟨p0, p1, p2, p3, p4⟩ := PD.out _ f3
                  go_wp2_with fail
                  with_reducible refine (HVI.out nd _ f3).mono ?_
                  rintro e w4 ⟨rfl, f4⟩
                  rw [if_pos rfl]
                  clear p0 p1 p2 p3 p4
                  have hf4 := f3.trans f4
                  clear f3 f4
                  go_wp2_with fail
                  go_loopw [16] (fun i wi => ∃ k3 : Nat, k3 ≤ 10 ∧ i = .int .i64 k3 ∧ Fr (fun _ => False) wc wi) (fun i _ => 10 - (intOf i).toNat)
                  case atStart => exact ⟨0, by omega, rfl, hf4⟩
                  case round =>
                    obtain ⟨k3, hk3, rfl, hf5⟩ := hrel
                    by_cases hl3 : k3 < 10
                    · by_cases he : (k3 : Int) = nd
                      · have hb : ((k3 : Int) != nd) = false := by simp [he]
                        clear he
                        go_wp2_with fail
                        go_roundw
                        case rel => exact ⟨k3 + 1, by omega, by go_num, hf5⟩
                        case measure => simp [intOf]; omega
                      · have hb : ((k3 : Int) != nd) = true := by simp [he]
                        obtain ⟨p0, p1, p2, p3, p4⟩ := PD.out _ hf5
                        have hv : (if nd = (k3 : Int) then wv else 0) = 0 := if_neg (fun e => he e.symm)
                        have HVK := hid (HVI.out (k3 : Int) _ hf5)
                        rw [hv] at HVK
                        clear he hv
                        go_wp2_with fail
                        with_reducible refine HVK.out.mono ?_
                        rintro e w6 ⟨rfl, f6⟩
                        clear p0 p1 p2 p3 p4
                        go_wp2_with fail
                        go_roundw
                        case rel => exact ⟨k3 + 1, by omega, by go_num, hf5.trans f6⟩
                        case measure => simp [intOf]; omega
                    · have hk10 : k3 = 10 := by omega
                      subst hk10
                      obtain ⟨p0, p1, p2, p3, p4⟩ := PD.out _ hf5
                      go_wp2_with fail
                      clear p0 p1 p2 p3 p4
                      go_loopw [17] (fun i wi => ∃ k4 : Nat, k4 ≤ N ∧ i = .int .i64 k4 ∧ Fr (fun _ => False) wc wi) (fun i _ => N - (intOf i).toNat)
                      case atStart => exact ⟨0, by omega, rfl, hf5⟩
                      case round =>
                        obtain ⟨k4, hk4, rfl, hf6⟩ := hrel
                        clear hf5 hf4
                        obtain ⟨p0, p1, p2, p3, p4⟩ := PD.out _ hf6
                        by_cases hl4 : k4 < N
                        · obtain ⟨b, off, rfl, hb, t0, t1, t2, t3, t4, t5⟩ := (HES.out.keep0 hf6).at (i := k4) (by rw [← HN2.out]; exact hl4)
                          have hk4n : k4 < n := by have := HNM.out; omega
                          have hk4h : k4 < hop := by have := HNM.out; omega
                          rw [take_getD hk4h] at t0 t1 t2 t3 t4 t5
                          have r0 : wr.cell? ⟨gv, k4 * 6, none⟩ = some (.int .i64 (E.getD k4 ez).n) := cell_fr hf6 (HCE.out k4 0 hk4n (by decide))
                          have r1 : wr.cell? ⟨gv, k4 * 6 + 1, none⟩ = some (.int .i64 (E.getD k4 ez).s) := cell_fr hf6 (HCE.out k4 1 hk4n (by decide))
                          have r2 : wr.cell? ⟨gv, k4 * 6 + 2, none⟩ = some (.int .i64 (E.getD k4 ez).r) := cell_fr hf6 (HCE.out k4 2 hk4n (by decide))
                          have r3 : wr.cell? ⟨gv, k4 * 6 + 3, none⟩ = some (.int .i64 (E.getD k4 ez).a) := cell_fr hf6 (HCE.out k4 3 hk4n (by decide))
                          have r4 : wr.cell? ⟨gv, k4 * 6 + 4, none⟩ = some (.int .i64 (E.getD k4 ez).h) := cell_fr hf6 (HCE.out k4 4 hk4n (by decide))
                          have r5 : wr.cell? ⟨gv, k4 * 6 + 5, none⟩ = some (.int .i64 (E.getD k4 ez).c) := cell_fr hf6 (HCE.out k4 5 hk4n (by decide))
                          generalize E.getD k4 ez = x at *
                          obtain ⟨xn, xs, xr, xa, xh, xc⟩ := x
                          simp only at t0 t1 t2 t3 t4 t5 r0 r1 r2 r3 r4 r5
                          have hne : ∀ W, (binOp .neq 28 (.agg #[.int .i64 xn, .int .i64 xs, .int .i64 xr, .int .i64 xa, .int .i64 xh, .int .i64 xc]) (.agg #[.int .i64 xn, .int .i64 xs, .int .i64 xr, .int .i64 xa, .int .i64 xh, .int .i64 xc])).run Try.prog W = .ok (.bool false) W := fun W => by simp [go_sem]
                          go_wp2_with fail
                          have hS : (fun W => W.cell? ⟨d, 4, none⟩ = some (.slice (some ⟨b, off, none⟩) N cap) ∧ W.cell? ⟨b, off + k4 * 6, none⟩ = some (.int .i64 xn) ∧ W.cell? ⟨b, off + k4 * 6 + 1, none⟩ = some (.int .i64 xs) ∧ W.cell? ⟨b, off + k4 * 6 + 2, none⟩ = some (.int .i64 xr) ∧ W.cell? ⟨b, off + k4 * 6 + 3, none⟩ = some (.int .i64 xa) ∧ W.cell? ⟨b, off + k4 * 6 + 4, none⟩ = some (.int .i64 xh) ∧ W.cell? ⟨b, off + k4 * 6 + 5, none⟩ = some (.int .i64 xc) ∧ W.cell? ⟨gv, k4 * 6, none⟩ = some (.int .i64 xn) ∧ W.cell? ⟨gv, k4 * 6 + 1, none⟩ = some (.int .i64 xs) ∧ W.cell? ⟨gv, k4 * 6 + 2, none⟩ = some (.int .i64 xr) ∧ W.cell? ⟨gv, k4 * 6 + 3, none⟩ = some (.int .i64 xa) ∧ W.cell? ⟨gv, k4 * 6 + 4, none⟩ = some (.int .i64 xh) ∧ W.cell? ⟨gv, k4 * 6 + 5, none⟩ = some (.int .i64 xc)) wr.drew := ⟨p4, t0, t1, t2, t3, t4, t5, r0, r1, r2, r3, r4, r5⟩
                          refine wp_region_held_drew (S := fun W => W.cell? ⟨d, 4, none⟩ = some (.slice (some ⟨b, off, none⟩) N cap) ∧ W.cell? ⟨b, off + k4 * 6, none⟩ = some (.int .i64 xn) ∧ W.cell? ⟨b, off + k4 * 6 + 1, none⟩ = some (.int .i64 xs) ∧ W.cell? ⟨b, off + k4 * 6 + 2, none⟩ = some (.int .i64 xr) ∧ W.cell? ⟨b, off + k4 * 6 + 3, none⟩ = some (.int .i64 xa) ∧ W.cell? ⟨b, off + k4 * 6 + 4, none⟩ = some (.int .i64 xh) ∧ W.cell? ⟨b, off + k4 * 6 + 5, none⟩ = some (.int .i64 xc) ∧ W.cell? ⟨gv, k4 * 6, none⟩ = some (.int .i64 xn) ∧ W.cell? ⟨gv, k4 * 6 + 1, none⟩ = some (.int .i64 xs) ∧ W.cell? ⟨gv, k4 * 6 + 2, none⟩ = some (.int .i64 xr) ∧ W.cell? ⟨gv, k4 * 6 + 3, none⟩ = some (.int .i64 xa) ∧ W.cell? ⟨gv, k4 * 6 + 4, none⟩ = some (.int .i64 xh) ∧ W.cell? ⟨gv, k4 * 6 + 5, none⟩ = some (.int .i64 xc)) (by kernel_rfl) (hS) (fun hHeld => ?_)
                          refine wpAnyH_take (i := 0) (v := ?_) rfl (by kernel_rfl) (by kernel_rfl) (by kernel_rfl) (fun _ _ _ h => h) (Or.inl ⟨by rfl, ?_⟩) hHeld ?_
                          rotate_left 1
                          · (intro w hSw; (try dsimp only at hSw); go_simp <;> with_reducible rfl)
                          try simp only [Act.put, List.setIfInBounds_toArray, List.set_cons_zero, List.set_cons_succ, List.getElem_toArray, List.getElem_cons_succ, List.getElem_cons_zero]
                          refine wpAnyH_take (i := 1) (v := ?_) rfl (by kernel_rfl) (by kernel_rfl) (by kernel_rfl) (fun _ _ _ h => h) (Or.inl ⟨by rfl, ?_⟩) hHeld ?_
                          rotate_left 1
                          · (intro w hSw; (try dsimp only at hSw); go_simp <;> with_reducible rfl)
                          try simp only [Act.put, List.setIfInBounds_toArray, List.set_cons_zero, List.set_cons_succ, List.getElem_toArray, List.getElem_cons_succ, List.getElem_cons_zero]
                          refine wpAnyH_take (i := 2) (v := ?_) rfl (by kernel_rfl) (by kernel_rfl) (by kernel_rfl) (fun _ _ _ h => h) (Or.inl ⟨by rfl, ?_⟩) hHeld ?_
                          rotate_left 1
                          · (intro w hSw; (try dsimp only at hSw); go_simp <;> with_reducible rfl)
                          try simp only [Act.put, List.setIfInBounds_toArray, List.set_cons_zero, List.set_cons_succ, List.getElem_toArray, List.getElem_cons_succ, List.getElem_cons_zero]
                          refine wpAnyH_take (i := 3) (v := ?_) rfl (by kernel_rfl) (by kernel_rfl) (by kernel_rfl) (fun _ _ _ h => h) (Or.inl ⟨by rfl, ?_⟩) hHeld ?_
                          rotate_left 1
                          · (intro w hSw; (try dsimp only at hSw); go_simp <;> with_reducible rfl)
                          try simp only [Act.put, List.setIfInBounds_toArray, List.set_cons_zero, List.set_cons_succ, List.getElem_toArray, List.getElem_cons_succ, List.getElem_cons_zero]
                          refine wpAnyH_take (i := 4) (v := ?_) rfl (by kernel_rfl) (by kernel_rfl) (by kernel_rfl) (fun _ _ _ h => h) (Or.inl ⟨by rfl, ?_⟩) hHeld ?_
                          rotate_left 1
                          · (intro w hSw; (try dsimp only at hSw); go_simp <;> with_reducible rfl)
                          try simp only [Act.put, List.setIfInBounds_toArray, List.set_cons_zero, List.set_cons_succ, List.getElem_toArray, List.getElem_cons_succ, List.getElem_cons_zero]
                          refine wpAnyH_take (i := 5) (v := ?_) rfl (by kernel_rfl) (by kernel_rfl) (by kernel_rfl) (fun _ _ _ h => h) (Or.inl ⟨by rfl, ?_⟩) hHeld ?_
                          rotate_left 1
                          · (intro w hSw; (try dsimp only at hSw); go_simp <;> with_reducible rfl)
                          try simp only [Act.put, List.setIfInBounds_toArray, List.set_cons_zero, List.set_cons_succ, List.getElem_toArray, List.getElem_cons_succ, List.getElem_cons_zero]
                          refine wpAnyH_take (i := 6) (v := ?_) rfl (by kernel_rfl) (by kernel_rfl) (by kernel_rfl) (fun _ _ _ h => h) (Or.inl ⟨by rfl, ?_⟩) hHeld ?_
                          rotate_left 1
                          · (intro w hSw; (try dsimp only at hSw); go_simp <;> with_reducible rfl)
                          try simp only [Act.put, List.setIfInBounds_toArray, List.set_cons_zero, List.set_cons_succ, List.getElem_toArray, List.getElem_cons_succ, List.getElem_cons_zero]
                          refine wpAnyH_take (i := 7) (v := ?_) rfl (by kernel_rfl) (by kernel_rfl) (by kernel_rfl) (fun _ _ _ h => h) (Or.inl ⟨by rfl, ?_⟩) hHeld ?_
                          rotate_left 1
                          · (intro w hSw; (try dsimp only at hSw); go_simp <;> with_reducible rfl)
                          try simp only [Act.put, List.setIfInBounds_toArray, List.set_cons_zero, List.set_cons_succ, List.getElem_toArray, List.getElem_cons_succ, List.getElem_cons_zero]
                          refine wpAnyH_take (i := 8) (v := ?_) rfl (by kernel_rfl) (by kernel_rfl) (by kernel_rfl) (fun _ _ _ h => h) (Or.inl ⟨by rfl, ?_⟩) hHeld ?_
                          rotate_left 1
                          · (intro w hSw; (try dsimp only at hSw); go_simp <;> with_reducible rfl)
                          try simp only [Act.put, List.setIfInBounds_toArray, List.set_cons_zero, List.set_cons_succ, List.getElem_toArray, List.getElem_cons_succ, List.getElem_cons_zero]
                          refine wpAnyH_take (i := 9) (v := ?_) rfl (by kernel_rfl) (by kernel_rfl) (by kernel_rfl) (fun _ _ _ h => h) (Or.inl ⟨by rfl, ?_⟩) hHeld ?_
                          rotate_left 1
                          · (intro w hSw; (try dsimp only at hSw); go_simp <;> with_reducible rfl)
                          try simp only [Act.put, List.setIfInBounds_toArray, List.set_cons_zero, List.set_cons_succ, List.getElem_toArray, List.getElem_cons_succ, List.getElem_cons_zero]
                          refine wpAnyH_done (by kernel_rfl) ?_ _
                          clear hHeld
                          go_wp2_with fail
                          go_roundw
                          case rel => exact ⟨k4 + 1, by omega, by go_num, hf6.drew⟩
                          case measure => simp [intOf]; omega
                        · have hkN : k4 = N := by omega
                          subst hkN
                          clear p0 p1 p2 p3 p4
                          obtain ⟨p0, p1, p2, p3, p4⟩ := PD.out _ hf6
                          by_cases cA : hop < n
                          · have hw1 : wv = 1 := by rw [HWE.out, HWV2.out, if_pos cA]
                            subst hw1
                            obtain ⟨h9, hh9⟩ : ∃ h9 : Int, h9 = ((hop + 1 : Nat) : Int) := ⟨_, rfl⟩
                            obtain ⟨N3, hN3⟩ : ∃ N3, N3 = (E.take (hop + 1)).length := ⟨_, rfl⟩
                            have HADA : Hid (∀ W, Fr (fun _ => False) wc W → Calls Try.prog 11 #[.agg #[.int .i64 1001, .int .i64 l0, .int .i64 (q : Int), .int .i64 (hop : Int), .slice a k4 cap], (E.getD hop ez).agg] W fun e w' => ∃ a2 cap2, e = .returned (.tuple #[.agg #[.int .i64 1001, .int .i64 l0, .int .i64 (q : Int), .int .i64 h9, .slice a2 N3 cap2], .int .i64 0]) ∧ w'.ownsRow 0 28 6 (.slice a2 N3 cap2) N3 (ents (E.take (hop + 1))) ∧ Fr (fun _ => False) W w') := hid (fun W f => (HAD.out (E.getD hop ez) W f).mono fun e w' ⟨v, he, hr, hfr⟩ => by
                              obtain ⟨ha, hmore⟩ := HADD.out hop h1 cA
                              have hr := hr ha
                              rw [ha, hmore] at he
                              have hL : (CR q E hop).L ++ [E.getD hop ez] = E.take (hop + 1) := congrArg Cm.L hmore
                              rw [hL] at hr
                              obtain ⟨a2, cap2, rfl⟩ := rowN_shape hr.1
                              refine ⟨a2, cap2, ?_, by rw [hN3]; exact hr.1, hfr⟩
                              rw [he, HL0.out, hh9, hN3]
                              rfl)
                            have HH9 := hid hh9
                            have HN3 := hid hN3
                            clear hh9 hN3
                            have hhn : hop < n := cA
                            have HCA := hid cA
                            have g0 : wr.cell? ⟨gv, hop * 6, none⟩ = some (.int .i64 (E.getD hop ez).n) := cell_fr hf6 (HCE.out hop 0 hhn (by decide))
                            have g1 : wr.cell? ⟨gv, hop * 6 + 1, none⟩ = some (.int .i64 (E.getD hop ez).s) := cell_fr hf6 (HCE.out hop 1 hhn (by decide))
                            have g2 : wr.cell? ⟨gv, hop * 6 + 2, none⟩ = some (.int .i64 (E.getD hop ez).r) := cell_fr hf6 (HCE.out hop 2 hhn (by decide))
                            have g3 : wr.cell? ⟨gv, hop * 6 + 3, none⟩ = some (.int .i64 (E.getD hop ez).a) := cell_fr hf6 (HCE.out hop 3 hhn (by decide))
                            have g4 : wr.cell? ⟨gv, hop * 6 + 4, none⟩ = some (.int .i64 (E.getD hop ez).h) := cell_fr hf6 (HCE.out hop 4 hhn (by decide))
                            have g5 : wr.cell? ⟨gv, hop * 6 + 5, none⟩ = some (.int .i64 (E.getD hop ez).c) := cell_fr hf6 (HCE.out hop 5 hhn (by decide))
                            generalize E.getD hop ez = x at *
                            obtain ⟨xn, xs, xr, xa, xh, xc⟩ := x
                            simp only at g0 g1 g2 g3 g4 g5
                            simp only [Ent.agg] at HADA
                            have PS46 : Hid (∀ W, Fr (fun _ => False) wr W → W.cell? ⟨gv, hop * 6, none⟩ = some (.int .i64 xn) ∧ W.cell? ⟨gv, hop * 6 + 1, none⟩ = some (.int .i64 xs) ∧ W.cell? ⟨gv, hop * 6 + 2, none⟩ = some (.int .i64 xr) ∧ W.cell? ⟨gv, hop * 6 + 3, none⟩ = some (.int .i64 xa) ∧ W.cell? ⟨gv, hop * 6 + 4, none⟩ = some (.int .i64 xh) ∧ W.cell? ⟨gv, hop * 6 + 5, none⟩ = some (.int .i64 xc)) := hid (fun W f => ⟨cell_fr f g0, cell_fr f g1, cell_fr f g2, cell_fr f g3, cell_fr f g4, cell_fr f g5⟩)
                            have hgd : ¬ gv = d := fun e => by
                              obtain ⟨cs, bl⟩ := row_type HRA.out (k := gv) (by simp [footOf, Value.ownBlock])
                              rw [e] at bl
                              exact absurd (bl.type HBD.out) (by decide)
                            have PS46b : Hid (∀ W W', Fr (fun _ => False) wr W → Fr (· = d) W W' → W'.cell? ⟨gv, hop * 6, none⟩ = some (.int .i64 xn) ∧ W'.cell? ⟨gv, hop * 6 + 1, none⟩ = some (.int .i64 xs) ∧ W'.cell? ⟨gv, hop * 6 + 2, none⟩ = some (.int .i64 xr) ∧ W'.cell? ⟨gv, hop * 6 + 3, none⟩ = some (.int .i64 xa) ∧ W'.cell? ⟨gv, hop * 6 + 4, none⟩ = some (.int .i64 xh) ∧ W'.cell? ⟨gv, hop * 6 + 5, none⟩ = some (.int .i64 xc)) := hid (fun W W' f f2 => by
                              obtain ⟨k0, k1, k2, k3, k4', k5⟩ := PS46.out W f
                              have hc : ∀ o v, W.cell? ⟨gv, o, none⟩ = some v → W'.cell? ⟨gv, o, none⟩ = some v := fun o v h => by
                                rw [← h]; exact World.cell?_of_block (f2.block gv (World.block_lt_of_cell? W _ h) hgd)
                              exact ⟨hc _ _ k0, hc _ _ k1, hc _ _ k2, hc _ _ k3, hc _ _ k4', hc _ _ k5⟩)
                            have HF6 := hid hf6
                            clear g0 g1 g2 g3 g4 g5 cA
                            go_wp2_with fail
                            clear p0 p1 p2 p3 p4 hf6
                            refine wp_region_held_drew (S := fun W => W.cell? ⟨gv, hop * 6, none⟩ = some (.int .i64 xn) ∧ W.cell? ⟨gv, hop * 6 + 1, none⟩ = some (.int .i64 xs) ∧ W.cell? ⟨gv, hop * 6 + 2, none⟩ = some (.int .i64 xr) ∧ W.cell? ⟨gv, hop * 6 + 3, none⟩ = some (.int .i64 xa) ∧ W.cell? ⟨gv, hop * 6 + 4, none⟩ = some (.int .i64 xh) ∧ W.cell? ⟨gv, hop * 6 + 5, none⟩ = some (.int .i64 xc)) (by kernel_rfl) (PS46.out _ (Fr.refl _ _).drew) (fun hHeld => ?_)
                            refine wpAnyH_take (i := 1) (v := ?_) rfl (by kernel_rfl) (by kernel_rfl) (by kernel_rfl) (fun _ _ _ h => h) (Or.inl ⟨by rfl, ?_⟩) hHeld ?_
                            rotate_left 1
                            · (intro w hSw; (try dsimp only at hSw); go_simp <;> with_reducible rfl)
                            try simp only [Act.put, List.setIfInBounds_toArray, List.set_cons_zero, List.set_cons_succ, List.getElem_toArray, List.getElem_cons_succ, List.getElem_cons_zero]
                            refine wpAnyH_take (i := 2) (v := ?_) rfl (by kernel_rfl) (by kernel_rfl) (by kernel_rfl) (fun _ _ _ h => h) (Or.inl ⟨by rfl, ?_⟩) hHeld ?_
                            rotate_left 1
                            · (intro w hSw; (try dsimp only at hSw); go_simp <;> with_reducible rfl)
                            try simp only [Act.put, List.setIfInBounds_toArray, List.set_cons_zero, List.set_cons_succ, List.getElem_toArray, List.getElem_cons_succ, List.getElem_cons_zero]
                            refine wpAnyH_take (i := 3) (v := ?_) rfl (by kernel_rfl) (by kernel_rfl) (by kernel_rfl) (fun _ _ _ h => h) (Or.inl ⟨by rfl, ?_⟩) hHeld ?_
                            rotate_left 1
                            · (intro w hSw; (try dsimp only at hSw); go_simp <;> with_reducible rfl)
                            try simp only [Act.put, List.setIfInBounds_toArray, List.set_cons_zero, List.set_cons_succ, List.getElem_toArray, List.getElem_cons_succ, List.getElem_cons_zero]
                            refine wpAnyH_take (i := 4) (v := ?_) rfl (by kernel_rfl) (by kernel_rfl) (by kernel_rfl) (fun _ _ _ h => h) (Or.inl ⟨by rfl, ?_⟩) hHeld ?_
                            rotate_left 1
                            · (intro w hSw; (try dsimp only at hSw); go_simp <;> with_reducible rfl)
                            try simp only [Act.put, List.setIfInBounds_toArray, List.set_cons_zero, List.set_cons_succ, List.getElem_toArray, List.getElem_cons_succ, List.getElem_cons_zero]
                            refine wpAnyH_ready (rs := [0]) (by kernel_rfl) (by simp) ?_
                            refine AllReadyH.cons rfl (fun K hK => ?_) AllReadyH.nil
                            clear hHeld
                            obtain ⟨p0, p1, p2, p3, p4⟩ := PD.out _ HF6.out.drew
                            go_simp
                            clear p0 p1 p2 p3 p4
                            refine hK.out _ _ (PS46.out _ (Fr.refl _ _).drew) (fun hHeld => ?_)
                            clear hK K
                            try simp only [Act.put, List.setIfInBounds_toArray, List.set_cons_zero, List.set_cons_succ, List.getElem_toArray, List.getElem_cons_succ, List.getElem_cons_zero]
                            refine wpAnyH_ready (rs := [5]) (by kernel_rfl) (by simp) ?_
                            refine AllReadyH.cons rfl (fun K hK => ?_) AllReadyH.nil
                            clear hHeld
                            go_simp
                            go_at_call 11
                            with_reducible refine (HADA.out _ (HF6.out.drew)).mono ?_
                            rintro e w8 ⟨a2, cap2, rfl, hr8, f8⟩
                            have HG8 := hid ((Fr.refl (fun _ => False) wr).drew.trans f8)
                            have HF8 := hid (HF6.out.trans HG8.out)
                            have HB8 := hid (HBD.out.keep HF8.out (fun h => h))
                            have HR8 := hid hr8
                            clear hr8 f8
                            refine hK.out _ _ (PS46.out _ HG8.out) (fun hHeld => ?_)
                            clear hK K
                            try simp only [Act.put, List.setIfInBounds_toArray, List.set_cons_zero, List.set_cons_succ, List.getElem_toArray, List.getElem_cons_succ, List.getElem_cons_zero]
                            refine wpAnyH_take (i := 6) (v := ?_) rfl (by kernel_rfl) (by kernel_rfl) (by kernel_rfl) (fun _ _ _ h => h) (Or.inl ⟨by rfl, ?_⟩) hHeld ?_
                            rotate_left 1
                            · (intro w hSw; (try dsimp only at hSw); go_simp <;> with_reducible rfl)
                            try simp only [Act.put, List.setIfInBounds_toArray, List.set_cons_zero, List.set_cons_succ, List.getElem_toArray, List.getElem_cons_succ, List.getElem_cons_zero]
                            refine wpAnyH_take (i := 7) (v := ?_) rfl (by kernel_rfl) (by kernel_rfl) (by kernel_rfl) (fun _ _ _ h => h) (Or.inl ⟨by rfl, ?_⟩) hHeld ?_
                            rotate_left 1
                            · (intro w hSw; (try dsimp only at hSw); go_simp <;> with_reducible rfl)
                            try simp only [Act.put, List.setIfInBounds_toArray, List.set_cons_zero, List.set_cons_succ, List.getElem_toArray, List.getElem_cons_succ, List.getElem_cons_zero]
                            refine wpAnyH_take (i := 8) (v := ?_) rfl (by kernel_rfl) (by kernel_rfl) (by kernel_rfl) (fun _ _ _ h => h) (Or.inl ⟨by rfl, ?_⟩) hHeld ?_
                            rotate_left 1
                            · (intro w hSw; (try dsimp only at hSw); go_simp <;> with_reducible rfl)
                            try simp only [Act.put, List.setIfInBounds_toArray, List.set_cons_zero, List.set_cons_succ, List.getElem_toArray, List.getElem_cons_succ, List.getElem_cons_zero]
                            refine wpAnyH_ready (rs := [9]) (by kernel_rfl) (by simp) ?_
                            refine AllReadyH.cons rfl (fun K hK => ?_) AllReadyH.nil
                            clear hHeld
                            refine step_store_part (by rfl) 26 (.tmp 11) (.tmp 167) (by rfl) aggCm d 0 (by rfl) HB8.out (.agg #[.int .i64 1001, .int .i64 l0, .int .i64 (q : Int), .int .i64 h9, .slice a2 N3 cap2]) (by rfl) rfl (one_cc 1001 l0 q h9 a2 N3 cap2) (Nat.le_refl 5) #[.int .i64 1001, .int .i64 l0, .int .i64 (q : Int), .int .i64 h9, .slice a2 N3 cap2] rfl ?_
                            intro w9 B9 f9 z9
                            refine hK.out _ _ (PS46b.out _ _ HG8.out f9) (fun hHeld => ?_)
                            clear hK K
                            try simp only [Act.put, List.setIfInBounds_toArray, List.set_cons_zero, List.set_cons_succ, List.getElem_toArray, List.getElem_cons_succ, List.getElem_cons_zero]
                            refine wpAnyH_take (i := 10) (v := ?_) rfl (by kernel_rfl) (by kernel_rfl) (by kernel_rfl) (fun _ _ _ h => h) (Or.inl ⟨by rfl, ?_⟩) hHeld ?_
                            rotate_left 1
                            · (intro w hSw; (try dsimp only at hSw); go_simp <;> with_reducible rfl)
                            try simp only [Act.put, List.setIfInBounds_toArray, List.set_cons_zero, List.set_cons_succ, List.getElem_toArray, List.getElem_cons_succ, List.getElem_cons_zero]
                            refine wpAnyH_done (by kernel_rfl) ?_ _
                            clear hHeld
                            clear z9
                            go_wp2_with fail
                            go_roundw
                            case rel =>
                              refine ⟨rfl, hop + 1, by omega, by omega, by go_num, ?_⟩
                              rw [Nat.min_eq_left (by have := HCA.out; omega)]
                              unfold RS
                              rw [← HN3.out, ← HH9.out]
                              exact ⟨a2, cap2, B9, row_into HR8.out HB8.out f9, row_into (row_keep HRA.out HF8.out (fun _ _ h => h)) HB8.out f9, (HFO.out.trans HF8.out).into f9 hdw⟩
                            case measure => simp [intOf]; omega
                          · have hNn : k4 = n := by have := HNM.out; omega
                            have HNN2 := hid hNn
                            have hst := HST.out hop (by omega) hlt
                            have HSPP := hid (fun W f => HSP.out W f)
                            rw [hst] at HSPP
                            have htb := HTB.out
                            have hwt : wrap64 (topV E + 1) = topV E + 1 := w64 (by omega) (by omega)
                            clear htb hst
                            by_cases cC : hop = 2 * n
                            · have hw3 : wv = 3 := by rw [HWE.out, HWV2.out, if_neg cA, if_pos cC]
                              subst hw3
                              have HCC := hid cC
                              have hnN : (((k4 : Nat) : Int) != (n : Int)) = false := by simp [hNn]
                              clear cC cA hNn
                              go_wp2_with fail
                              with_reducible refine (HSPP.out _ hf6).mono ?_
                              rintro e w7 ⟨rfl, f7⟩
                              clear p0 p1 p2 p3 p4
                              have HF7 := hid (hf6.trans f7)
                              clear f7
                              go_wp2_with fail
                              go_roundw
                              case rel =>
                                refine ⟨rfl, hop + 1, by omega, by omega, by go_num, ?_⟩
                                rw [Nat.min_eq_right (by have := HCC.out; omega)]
                                have e := HCC.out
                                rw [← e]
                                exact ⟨a, cap, by rw [← HN2.out]; exact HBD.out.keep HF7.out (fun h => h), by rw [← HN2.out]; exact row_keep HRCC.out HF7.out (fun _ _ h => h), row_keep HRA.out HF7.out (fun _ _ h => h), HFO.out.trans HF7.out⟩
                              case measure => simp [intOf]; omega
                            · have hw2 : wv = 2 := by rw [HWE.out, HWV2.out, if_neg cA, if_neg cC]
                              subst hw2
                              obtain ⟨h9, hh9⟩ : ∃ h9 : Int, h9 = ((hop + 1 : Nat) : Int) := ⟨_, rfl⟩
                              have HPAA : Hid (∀ W, Fr (fun _ => False) wc W → Calls Try.prog 13 #[.agg #[.int .i64 1001, .int .i64 l0, .int .i64 (q : Int), .int .i64 (hop : Int), .slice a k4 cap]] W fun e w' => ∃ a2 cap2, e = .returned (.tuple #[.agg #[.int .i64 1001, .int .i64 l0, .int .i64 (q : Int), .int .i64 h9, .slice a2 (E.take (hop + 1)).length cap2], .int .i64 0]) ∧ w'.ownsRow 0 28 6 (.slice a2 (E.take (hop + 1)).length cap2) (E.take (hop + 1)).length (ents (E.take (hop + 1))) ∧ Fr (fun _ => False) W w') := hid (fun W f => (HPS.out W f).mono fun e w' ⟨v, he, hr, hfr⟩ => by
                                obtain ⟨ha, hmore⟩ := HPASS.out hop (by omega) (by omega)
                                have hr := hr ha
                                rw [ha, hmore] at he
                                have hL : (CR q E hop).L = E.take (hop + 1) := by
                                  have h8 : (CR q E hop).L ++ [] = E.take (hop + 1) := congrArg Cm.L hmore
                                  rw [List.append_nil] at h8
                                  exact h8
                                rw [hL] at hr
                                obtain ⟨a2, cap2, rfl⟩ := rowN_shape hr.1
                                refine ⟨a2, cap2, ?_, hr.1, hfr⟩
                                rw [he, HL0.out, hh9]
                                rfl)
                              have HH9 := hid hh9
                              clear hh9
                              have HCC := hid (⟨cA, cC⟩ : ¬ hop < n ∧ ¬ hop = 2 * n)
                              have hnN : (((k4 : Nat) : Int) != (n : Int)) = false := by simp [hNn]
                              clear cC cA hNn
                              go_wp2_with fail
                              with_reducible refine (HSPP.out _ hf6).mono ?_
                              rintro e w7 ⟨rfl, f7⟩
                              clear p0 p1 p2 p3 p4
                              have HF7 := hid (hf6.trans f7)
                              clear f7
                              obtain ⟨p0, p1, p2, p3, p4⟩ := PD.out _ HF7.out
                              go_wp2_with fail
                              with_reducible refine (HPAA.out _ HF7.out).mono ?_
                              rintro e w8 ⟨a2, cap2, rfl, hr8, f8⟩
                              have HF8 := hid (HF7.out.trans f8)
                              have HB8 := hid (HBD.out.keep HF8.out (fun h => h))
                              have HR8 := hid hr8
                              clear p0 p1 p2 p3 p4 hr8 f8
                              generalize hN3 : (E.take (hop + 1)).length = N3 at *
                              have B8 := HB8.out
                              go_wp2_with (refine wpList_store_part rfl 26 _ _ rfl aggCm d 0 rfl B8 (.agg #[.int .i64 1001, .int .i64 l0, .int .i64 (q : Int), .int .i64 h9, .slice a2 N3 cap2]) rfl rfl (one_cc 1001 l0 q h9 a2 N3 cap2) (Nat.le_refl 5) #[.int .i64 1001, .int .i64 l0, .int .i64 (q : Int), .int .i64 h9, .slice a2 N3 cap2] rfl ?_)
                              intro w9 B9 f9 z9
                              have HN3 := hid hN3
                              clear hN3 z9
                              go_wp2_with fail
                              go_roundw
                              case rel =>
                                refine ⟨rfl, hop + 1, by omega, by omega, by go_num, ?_⟩
                                rw [Nat.min_eq_left (by have := HCC.out; omega)]
                                unfold RS
                                rw [HN3.out, ← HH9.out]
                                exact ⟨a2, cap2, B9, row_into HR8.out HB8.out f9, row_into (row_keep HRA.out HF8.out (fun _ _ h => h)) HB8.out f9, (HFO.out.trans HF8.out).into f9 hdw⟩
                              case measure => simp [intOf]; omega
            · have hop2 : hop = 2 * n + 1 := by omega
              rw [Nat.min_eq_right (by omega)] at hRS
              obtain ⟨a, cap, hBD, hRC, hRA, hf⟩ := hRS
              have HES := hid (IsEs.of_row hRC)
              have HPS := hid (pass_any (CR q E (2 * n)) _ wr HES.out)
              have hcv : ∀ v, cv (CR q E (2 * n)) v = .agg #[.int .i64 1001, .int .i64 l0, .int .i64 (q : Int), .int .i64 ((2 * n : Nat) : Int), v] := fun v => by unfold cv CR; rw [HL0.out]
              simp only [hcv, HLAST.out] at HPS
              obtain ⟨N, hN⟩ : ∃ N, N = (E.take (2 * n)).length := ⟨_, rfl⟩
              rw [← hN] at HPS hBD
              obtain ⟨hh, hhe⟩ : ∃ hh : Int, hh = ((2 * n : Nat) : Int) := ⟨_, rfl⟩
              rw [← hhe] at HPS hBD
              have p0 := hBD.cell 0 rfl
              have p1 := hBD.cell 1 rfl
              have p2 := hBD.cell 2 rfl
              have p3 := hBD.cell 3 rfl
              have p4 : wr.cell? ⟨d, 4, none⟩ = some (.slice a N cap) := hBD.cell 4 rfl
              have hwm : wrap64 (2 * (n : Int)) = 2 * (n : Int) := w64m hn8
              have HF := hid (HF2.out.trans hf)
              clear hcv hN hhe hf
              go_wp2_with fail
              with_reducible refine HPS.out.mono ?_
              rintro e w7 ⟨v7, rfl, _, f7⟩
              have HF7 := hid (HF.out.trans f7)
              clear p0 p1 p2 p3 p4 f7
              simp only [ans, cz, Bool.false_eq_true, if_false]
              go_wp2_with (refine wpList_new rfl 26 rfl #[.int .i64 0, .int .i64 0, .int .i64 0, .int .i64 0, .slice none 0 0] zeroCm ?_)
              intro y w8 hy B8 f8 z8
              have hyw : w.heap.size ≤ y := by rw [hy]; exact HF7.out.size
              have HF8 := hid (HF7.out.trans f8)
              clear hy f8 z8
              go_wp2_with (refine wpList_store_part rfl 26 _ _ rfl aggCm y 0 rfl B8 (.agg #[.int .i64 0, .int .i64 0, .int .i64 0, .int .i64 0, .slice none 0 0]) rfl rfl (one_cc 0 0 0 0 none 0 0) (by decide) #[.int .i64 0, .int .i64 0, .int .i64 0, .int .i64 0, .slice none 0 0] rfl ?_)
              intro w9 B9 f9 z9
              go_wp2_with fail
              go_ret
              exact ⟨rfl, HF8.out.into f9 hyw⟩
theorem round_walk (a1 : Int) (v : Value) (w : World) (hv : InEs w v) : Calls Try.prog 5 #[.int .i64 a1, v] w fun e w' => e = .returned (.bool true) ∧ Below w.heap.size w w' :=
  (round_any a1 v w hv).mono fun e w' q => ⟨q.1, q.2.below (Nat.le_refl _) (fun _ h => h.elim)⟩
end Go.Proofs.Ytecngibenlcdiaa
