/-
  THE DOCUMENT'S MERGE (ch 25): New, Mark. Conditions: none.
-/
import Derived.Test.YtfkffjjkmckpnaaMgP3
namespace Go.Proofs.Ytfkffjjkmckpnaa
open Go.RowKit Go.ChangeShapes Go.WideShapes Go.Deep

set_option linter.unusedSimpArgs false
set_option maxRecDepth 100000
theorem build_ref (st : Int) (k : Ky) (W : World) : (Instr.build 92 #[(0, .int .i64 st), (3, .agg #[.int .i64 k.s, .int .i64 k.r, .int .i64 k.p, .int .i64 k.q])]).run Try.prog W = .ok (.agg (refA st (fun _ => kz) (fun _ => .slice none 0 0) k)) W := by kernel_rfl
section
variable {P : Program} {w : World} {ops : Array Oper} {rest : List Oper} {o : Oper} {a : Act} {Q : Exit → Act → World → Prop}
theorem wpList_build2at (hgd : o.guard = none) (t : TypeId) (i j : Nat) (x y : Operand) (ho : o.op = .build t #[(i, x), (j, y)]) (u z : Value) (hx : a.eval x = u) (hy : a.eval y = z) (v : Value) (hrun : (Instr.build t #[(i, u), (j, z)]).run P w = .ok v w)
    (h : wpList P ops Q rest (a.put o.dst v) w) : wpList P ops Q (o :: rest) a w := by
  refine wpList_plain hgd fun K hK => ?_
  unfold Oper.wp execOp
  simp [ho, hx, hy, hrun, Result.andThen]
  exact hK _ _ h
end
theorem rnew_bad (st : Int) (fl : Ky) (w : World) (h0 : -9223372036854775808 ≤ st) (h1 : st ≤ 9223372036854775807) (hb : okS st = false ∨ fl.ok = false) : Calls Try.prog 22 #[.int .i64 st, fl.agg] w fun e w' => e = .returned (.tuple #[.pointer none, .int .i64 2]) ∧ Fr (fun _ => False) w w' := by
  have HCK := hid (fun W => rcheck_any fl.s fl.r fl.p fl.q W)
  have HF := hid ((Fr.refl (fun _ => False) w).alloc (.cells #[.int .i64 fl.s, .int .i64 fl.r, .int .i64 fl.p, .int .i64 fl.q] 32))
  have HB := Blk.new w #[.int .i64 fl.s, .int .i64 fl.r, .int .i64 fl.p, .int .i64 fl.q] 32
  have c0 := HB.cell 0 rfl
  have c1 := HB.cell 1 rfl
  have c2 := HB.cell 2 rfl
  have c3 := HB.cell 3 rfl
  unfold Ky.agg
  by_cases hr : 0 ≤ st ∧ st < 512
  · obtain ⟨n, rfl⟩ : ∃ n : Nat, st = n := ⟨st.toNat, by omega⟩
    have hlt : ¬ (512 : Int) ≤ (n : Int) := by omega
    have hlt2 : ¬ 512 ≤ n := by omega
    have hd0 : decide ((n : Int) < 0) = false := decide_eq_false (by omega)
    obtain ⟨r, hr2⟩ : ∃ r, r = n % 2 := ⟨_, rfl⟩
    have ht : Int.tmod (n : Int) 2 = (r : Int) := by rw [hr2]; rfl
    by_cases hr0 : r = 0
    · have hq : ((r : Int) == 0) = true := by simp [hr0]
      have hq2 : decide ((r : Int) = 0) = true := by simp [hr0]
      clear hr2 hr0 hr hb HB h0 h1
      go_enter Try.func22, Try.ntmps22
      go_wp2_with fail
      go_ret2
      exact ⟨rfl, HF.out⟩
    · have hk : okKey fl.s fl.r fl.p fl.q = false := by
        rcases hb with hb | hb
        · have := (okS_iff h0 h1).2 ⟨by omega, by omega, by omega⟩
          rw [this] at hb; cases hb
        · exact hb
      rw [hk] at HCK
      have hq : ((r : Int) == 0) = false := by simp [hr0]
      have hq2 : decide ((r : Int) = 0) = false := by simp [hr0]
      clear hr2 hr0 hr hb HB h0 h1 hk
      go_enter Try.func22, Try.ntmps22
      go_wp2_with fail
      with_reducible refine (HCK.out _).mono ?_
      rintro e w2 ⟨rfl, f2⟩
      go_wp2_with fail
      go_ret2
      exact ⟨rfl, HF.out.trans f2⟩
  · by_cases hneg : st < 0
    · clear hr hb HB h0 h1
      go_enter Try.func22, Try.ntmps22
      go_wp2_with fail
      go_ret2
      exact ⟨rfl, HF.out⟩
    · have h512 : 512 ≤ st := by omega
      clear hr hb HB h0 h1
      go_enter Try.func22, Try.ntmps22
      go_wp2_with fail
      go_ret2
      exact ⟨rfl, HF.out⟩
set_option maxHeartbeats 1000000 in
theorem rnew_ok (n : Nat) (fl : Ky) (w : World) (h5 : n ≤ 511) (h1 : n % 2 = 1) (hk : fl.ok = true) : Calls Try.prog 22 #[.int .i64 (n : Int), fl.agg] w fun e w' => ∃ q, e = .returned (.tuple #[.pointer (some ⟨q, 0, none⟩), .int .i64 0]) ∧ RG w' q n (fun _ => fl) (fun _ => .slice none 0 0) (fun _ => []) fl ∧ w.heap.size ≤ q ∧ Fr (fun _ => False) w w' := by
  have HCK := hid (fun W => rcheck_any fl.s fl.r fl.p fl.q W)
  rw [show okKey fl.s fl.r fl.p fl.q = true from hk] at HCK
  have H5 := hid h5
  have hlt : ¬ (512 : Int) ≤ (n : Int) := by omega
  have hlt2 : ¬ 512 ≤ n := by omega
  have hd0 : decide ((n : Int) < 0) = false := decide_eq_false (by omega)
  have hd5 : decide ((512 : Int) ≤ (n : Int)) = false := decide_eq_false (by omega)
  have ht : Int.tmod (n : Int) 2 = 1 := by
    have : Int.tmod (n : Int) 2 = ((n % 2 : Nat) : Int) := rfl
    rw [this, h1]; rfl
  unfold Ky.agg
  clear h5 h1 hk
  go_enter Try.func22, Try.ntmps22
  go_wp2_with (refine wpList_boxed rfl 32 _ rfl #[.int .i64 fl.s, .int .i64 fl.r, .int .i64 fl.p, .int .i64 fl.q] rfl ?_)
  intro b w1 hb B1 f1 z1
  have HB1 := hid B1
  have HF1 := hid f1
  clear hb B1 f1 z1
  have c0 := HB1.out.cell 0 rfl
  have c1 := HB1.out.cell 1 rfl
  have c2 := HB1.out.cell 2 rfl
  have c3 := HB1.out.cell 3 rfl
  go_wp2_with fail
  with_reducible refine (HCK.out _).mono ?_
  rintro e w2 ⟨rfl, f2⟩
  have HF2 := hid (HF1.out.trans f2)
  have HB2 := hid (HB1.out.keep f2 (fun h => h))
  clear f2 c0 c1 c2 c3 HB1 HF1 ht hlt hlt2 hd0 hd5 HCK
  go_wp2_with (first | (refine wpList_load_part rfl 32 _ rfl aggKey b 0 rfl HB2.out #[.int .i64 fl.s, .int .i64 fl.r, .int .i64 fl.p, .int .i64 fl.q] rfl rfl ?_) | (refine wpList_build2at rfl 92 0 3 (.tmp 24) (.tmp 25) rfl (.int .i64 (n : Int)) (.agg #[.int .i64 fl.s, .int .i64 fl.r, .int .i64 fl.p, .int .i64 fl.q]) rfl rfl (.agg (refA (n : Int) (fun _ => kz) (fun _ => .slice none 0 0) fl)) (build_ref (n : Int) fl _) ?_) | (refine wpList_boxed rfl 92 _ rfl (refA (n : Int) (fun _ => kz) (fun _ => .slice none 0 0) fl) rfl ?_))
  intro q w3 hq B3 f3 z3
  have HQ : Hid (w.heap.size ≤ q ∧ q ≠ b) := hid (by have h1 := HF2.out.size; have h2 := HB2.out.lt; omega)
  have HB3 := hid (HB2.out.keep f3 (fun h => h))
  have HF3 := hid (HF2.out.trans f3)
  have HR3 : Hid (Blk w3 q (refA (n : Int) (fun j => if j < 0 then fl else kz) (fun _ => .slice none 0 0) fl) 92) := hid (by simpa using B3)
  clear hq B3 f3 z3 HB2 HF2
  go_wp2_with fail
  go_loopw [7] (fun i wr => ∃ k : Nat, k ≤ 9 ∧ i = .int .i64 k ∧ Blk wr q (refA (n : Int) (fun j => if j < k then fl else kz) (fun _ => .slice none 0 0) fl) 92 ∧ Fr (· = q) w3 wr) (fun i _ => 9 - (intOf i).toNat)
  case atStart => exact ⟨0, by omega, rfl, HR3.out, Fr.refl _ _⟩
  case round =>
    obtain ⟨k, hk, rfl, hB, hF⟩ := hrel
    have HB := hid hB
    have HFr := hid hF
    clear hB hF
    by_cases hk9 : k < 9
    · have HK := hid hk9
      have hki : (k : Int) < 9 := by omega
      have HBb := hid (HB3.out.keep HFr.out (fun e => HQ.out.2 e.symm))
      have PS : Hid (∀ W, Fr (· = q) wr W → W.cell? ⟨b, 0, none⟩ = some (.int .i64 fl.s) ∧ W.cell? ⟨b, 1, none⟩ = some (.int .i64 fl.r) ∧ W.cell? ⟨b, 2, none⟩ = some (.int .i64 fl.p) ∧ W.cell? ⟨b, 3, none⟩ = some (.int .i64 fl.q)) := hid (fun W f => by
        have a := HBb.out.keep f (fun e => HQ.out.2 e.symm)
        exact ⟨a.cell 0 rfl, a.cell 1 rfl, a.cell 2 rfl, a.cell 3 rfl⟩)
      have f0 : Fr (· = q) wr wr.drew := (Fr.refl _ _).drew
      have HSET : Hid (((refA (n : Int) (fun j => if j < k then fl else kz) (fun _ => .slice none 0 0) fl).toList.take (1 + k * 4) ++ (Value.agg #[.int .i64 fl.s, .int .i64 fl.r, .int .i64 fl.p, .int .i64 fl.q]).cells.toList ++ (refA (n : Int) (fun j => if j < k then fl else kz) (fun _ => .slice none 0 0) fl).toList.drop (1 + k * 4 + 4)).toArray = refA (n : Int) (fun j => if j < k + 1 then fl else kz) (fun _ => .slice none 0 0) fl) := hid (by
        rw [refA_setfl _ _ _ _ hk9]
        congr 1
        funext j
        unfold set1
        by_cases e : j = k
        · subst e; simp
        · rw [if_neg e]
          show (if j < k then fl else kz) = _
          by_cases e2 : j < k
          · rw [if_pos e2, if_pos (by omega)]
          · rw [if_neg e2, if_neg (by omega)])
      have HFIT : Hid (1 + k * 4 + 4 ≤ 50) := hid (by omega)
      clear hk
      go_wp2_with fail
      refine wp_region_held_drew (S := fun W => W.cell? ⟨b, 0, none⟩ = some (.int .i64 fl.s) ∧ W.cell? ⟨b, 1, none⟩ = some (.int .i64 fl.r) ∧ W.cell? ⟨b, 2, none⟩ = some (.int .i64 fl.p) ∧ W.cell? ⟨b, 3, none⟩ = some (.int .i64 fl.q)) (by kernel_rfl) (PS.out _ f0) (fun hHeld => ?_)
      refine wpAnyH_take (i := 0) (v := ?_) rfl (by kernel_rfl) (by kernel_rfl) (by kernel_rfl) (fun _ _ _ h => h) (Or.inl ⟨by rfl, ?_⟩) hHeld ?_
      rotate_left 1
      · (intro w hSw; (try dsimp only at hSw); go_simp <;> with_reducible rfl)
      try simp only [Act.put, List.setIfInBounds_toArray, List.set_cons_zero, List.set_cons_succ, List.getElem_toArray, List.getElem_cons_succ, List.getElem_cons_zero]
      refine wpAnyH_take (i := 1) (v := ?_) rfl (by kernel_rfl) (by kernel_rfl) (by kernel_rfl) (fun _ _ _ h => h) (Or.inl ⟨by rfl, ?_⟩) hHeld ?_
      rotate_left 1
      · (intro w hSw; (try dsimp only at hSw); go_simp <;> with_reducible rfl)
      try simp only [Act.put, List.setIfInBounds_toArray, List.set_cons_zero, List.set_cons_succ, List.getElem_toArray, List.getElem_cons_succ, List.getElem_cons_zero]
      refine wpAnyH_take (i := 2) (v := ?_) rfl (by kernel_rfl) (by kernel_rfl) (by kernel_rfl) (fun _ _ _ h => h) (Or.inl ⟨by rfl, ?_⟩) hHeld ?_
      rotate_left 1
      · (intro w hSw; (try dsimp only at hSw); go_simp <;> with_reducible rfl)
      try simp only [Act.put, List.setIfInBounds_toArray, List.set_cons_zero, List.set_cons_succ, List.getElem_toArray, List.getElem_cons_succ, List.getElem_cons_zero]
      refine wpAnyH_take (i := 3) (v := ?_) rfl (by kernel_rfl) (by kernel_rfl) (by kernel_rfl) (fun _ _ _ h => h) (Or.inl ⟨by rfl, ?_⟩) hHeld ?_
      rotate_left 1
      · (intro w hSw; (try dsimp only at hSw); go_simp <;> with_reducible rfl)
      try simp only [Act.put, List.setIfInBounds_toArray, List.set_cons_zero, List.set_cons_succ, List.getElem_toArray, List.getElem_cons_succ, List.getElem_cons_zero]
      refine wpAnyH_take (i := 4) (v := ?_) rfl (by kernel_rfl) (by kernel_rfl) (by kernel_rfl) (fun _ _ _ h => h) (Or.inl ⟨by rfl, ?_⟩) hHeld ?_
      rotate_left 1
      · (intro w hSw; (try dsimp only at hSw); go_simp <;> with_reducible rfl)
      try simp only [Act.put, List.setIfInBounds_toArray, List.set_cons_zero, List.set_cons_succ, List.getElem_toArray, List.getElem_cons_succ, List.getElem_cons_zero]
      refine wpAnyH_take (i := 5) (v := ?_) rfl (by kernel_rfl) (by kernel_rfl) (by kernel_rfl) (fun _ _ _ h => h) (Or.inl ⟨by rfl, ?_⟩) hHeld ?_
      rotate_left 1
      · (intro w hSw; (try dsimp only at hSw); go_simp <;> with_reducible rfl)
      try simp only [Act.put, List.setIfInBounds_toArray, List.set_cons_zero, List.set_cons_succ, List.getElem_toArray, List.getElem_cons_succ, List.getElem_cons_zero]
      refine wpAnyH_ready (rs := [6]) (by kernel_rfl) (by simp) ?_
      refine AllReadyH.cons rfl (fun K hK => ?_) (AllReadyH.nil)
      skip
      clear hHeld
      refine step_store_part (by rfl) 32 (.tmp 37) (.tmp 34) (by rfl) aggKey q (1 + k * 4) (by rfl) (HB.out.drew) (.agg #[.int .i64 fl.s, .int .i64 fl.r, .int .i64 fl.p, .int .i64 fl.q]) (by rfl) (by rfl) (one_key fl) HFIT.out _ HSET.out ?_
      intro w7 B7 f7 _
      refine hK.out _ _ (PS.out _ (f0.trans f7)) (fun hHeld => ?_)
      clear hK K
      try simp only [Act.put, List.setIfInBounds_toArray, List.set_cons_zero, List.set_cons_succ, List.getElem_toArray, List.getElem_cons_succ, List.getElem_cons_zero]
      refine wpAnyH_done (by kernel_rfl) ?_ _
      clear hHeld
      go_wp2_with fail
      go_roundw
      case rel => exact ⟨k + 1, by have := HK.out; omega, by have := HK.out; go_num, B7, HFr.out.trans (f0.trans f7)⟩
      case measure => have := HK.out; simp [intOf]; omega
    · have hk9' : k = 9 := by omega
      subst hk9'
      clear hk9 hk
      go_wp2_with fail
      go_ret2
      refine ⟨q, rfl, ⟨?_, fun i hi => Its.nil _, fun i j _ _ _ b hb => by simp [footOf, Value.ownBlock] at hb, H5.out, fun _ _ _ => rfl⟩, HQ.out.1, HF3.out.into HFr.out HQ.out.1⟩
      have h := HB.out
      unfold refA at h ⊢
      simpa using h
section
variable {w : World} {q st : Nat} {fl : Nat → Ky} {lv : Nat → Value} {L : Nat → List It} {la : Ky}
theorem rmark_bad1 (n : Int) (k : Ky) (h : RG w q st fl lv L la) (hb : hasB st n = false) : Calls Try.prog 42 #[.pointer (some ⟨q, 0, none⟩), .int .i64 n, k.agg] w fun e w' => e = .returned (.int .i64 2) ∧ Fr (fun _ => False) w w' := by
  have HF := hid ((Fr.refl (fun _ => False) w).alloc (.cells #[.int .i64 k.s, .int .i64 k.r, .int .i64 k.p, .int .i64 k.q] 32))
  have HH := hid (has_any n (h.keep0 HF.out))
  rw [hb] at HH
  unfold Ky.agg
  clear h hb
  go_enter Try.func42, Try.ntmps42
  go_wp2_with fail
  with_reducible refine HH.out.mono ?_
  rintro e w2 ⟨rfl, rfl⟩
  go_wp2_with fail
  go_ret
  exact ⟨rfl, HF.out⟩
theorem rmark_bad2 (n : Int) (k : Ky) (h : RG w q st fl lv L la) (hh : hasB st n = true) (hb : k.ok = false) : Calls Try.prog 42 #[.pointer (some ⟨q, 0, none⟩), .int .i64 n, k.agg] w fun e w' => e = .returned (.int .i64 2) ∧ Fr (fun _ => False) w w' := by
  have HF := hid ((Fr.refl (fun _ => False) w).alloc (.cells #[.int .i64 k.s, .int .i64 k.r, .int .i64 k.p, .int .i64 k.q] 32))
  have HB := Blk.new w #[.int .i64 k.s, .int .i64 k.r, .int .i64 k.p, .int .i64 k.q] 32
  have c0 := HB.cell 0 rfl
  have c1 := HB.cell 1 rfl
  have c2 := HB.cell 2 rfl
  have c3 := HB.cell 3 rfl
  have HH := hid (has_any n (h.keep0 HF.out))
  have HCK := hid (fun W => rcheck_any k.s k.r k.p k.q W)
  rw [show okKey k.s k.r k.p k.q = false from hb] at HCK
  rw [hh] at HH
  unfold Ky.agg
  clear h hb hh HB
  go_enter Try.func42, Try.ntmps42
  go_wp2_with fail
  with_reducible refine HH.out.mono ?_
  rintro e w2 ⟨rfl, rfl⟩
  go_wp2_with fail
  with_reducible refine (HCK.out _).mono ?_
  rintro e w3 ⟨rfl, f3⟩
  go_wp2_with fail
  go_ret
  exact ⟨rfl, HF.out.trans f3⟩
set_option maxHeartbeats 1000000 in
theorem rmark_ok (i : Nat) (k : Ky) (h : RG w q st fl lv L la) (hi : i < 9) (hh : hasB st (i : Int) = true) (hk : k.ok = true) : Calls Try.prog 42 #[.pointer (some ⟨q, 0, none⟩), .int .i64 (i : Int), k.agg] w fun e w' => e = .returned (.int .i64 0) ∧ RG w' q st (if 0 < kc k (fl i) then set1 fl i k else fl) lv L la ∧ Fr (· = q) w w' := by
  have HG := hid h
  have HI := hid hi
  have HH := hid (fun W (f : Fr (fun _ => False) w W) => has_any (i : Int) (h.keep0 f))
  rw [hh] at HH
  have HCK := hid (fun W => rcheck_any k.s k.r k.p k.q W)
  rw [show okKey k.s k.r k.p k.q = true from hk] at HCK
  have HKC := hid (fun W => rkeys_any k.s k.r k.p k.q (fl i).s (fl i).r (fl i).p (fl i).q W)
  rw [show kcmp k.s k.r k.p k.q (fl i).s (fl i).r (fl i).p (fl i).q = kc k (fl i) from rfl] at HKC
  obtain ⟨C, hC⟩ : ∃ C, kc k (fl i) = C := ⟨_, rfl⟩
  rw [hC] at HKC
  have HCE := hid hC
  obtain ⟨fl', hfl'⟩ : ∃ fl', fl' = if 0 < kc k (fl i) then set1 fl i k else fl := ⟨_, rfl⟩
  rw [← hfl']
  have HFL := hid hfl'
  clear hfl'
  have hi9 : (i : Int) < 9 := by omega
  unfold Ky.agg
  clear h hh hk hC
  go_enter Try.func42, Try.ntmps42
  go_wp2_with (refine wpList_boxed rfl 32 _ rfl #[.int .i64 k.s, .int .i64 k.r, .int .i64 k.p, .int .i64 k.q] rfl ?_)
  intro b w1 hb B1 f1 z1
  have HB1 := hid B1
  have HF1 := hid f1
  have HBQ : Hid (b ≠ q) := hid (by have := HG.out.blk.lt; omega)
  clear hb B1 f1 z1
  go_wp2_with fail
  with_reducible refine (HH.out _ HF1.out).mono ?_
  rintro e w2 ⟨rfl, rfl⟩
  have c0 := HB1.out.cell 0 rfl
  have c1 := HB1.out.cell 1 rfl
  have c2 := HB1.out.cell 2 rfl
  have c3 := HB1.out.cell 3 rfl
  go_wp2_with fail
  with_reducible refine (HCK.out _).mono ?_
  rintro e w3 ⟨rfl, f3⟩
  have HF3 := hid (HF1.out.trans f3)
  have HB3 := hid (HB1.out.keep f3 (fun h => h))
  have HG3 := hid (HG.out.keep0 HF3.out)
  clear f3 c0 c1 c2 c3 HB1 HF1 HCK HH
  have PS : Hid (∀ W, Fr (fun _ => False) w3 W → W.cell? ⟨b, 0, none⟩ = some (.int .i64 k.s) ∧ W.cell? ⟨b, 1, none⟩ = some (.int .i64 k.r) ∧ W.cell? ⟨b, 2, none⟩ = some (.int .i64 k.p) ∧ W.cell? ⟨b, 3, none⟩ = some (.int .i64 k.q) ∧ W.cell? ⟨q, 1 + i * 4, none⟩ = some (.int .i64 (fl i).s) ∧ W.cell? ⟨q, 1 + i * 4 + 1, none⟩ = some (.int .i64 (fl i).r) ∧ W.cell? ⟨q, 1 + i * 4 + 2, none⟩ = some (.int .i64 (fl i).p) ∧ W.cell? ⟨q, 1 + i * 4 + 3, none⟩ = some (.int .i64 (fl i).q)) := hid (fun W f => by
    have a := HB3.out.keep f (fun h => h)
    have g := HG3.out.blk.keep f (fun h => h)
    obtain ⟨q0, q1, q2, q3⟩ := refA_fl (st : Int) fl lv la HI.out
    exact ⟨a.cell 0 rfl, a.cell 1 rfl, a.cell 2 rfl, a.cell 3 rfl, g.cell _ q0, g.cell _ q1, g.cell _ q2, g.cell _ q3⟩)
  have f0 : Fr (fun _ => False) w3 w3.drew := (Fr.refl _ _).drew
  by_cases hc : 0 < C
  · have d1 : decide (0 < C) = true := decide_eq_true hc
    have HC := hid hc
    go_wp2_with fail
    refine wp_region_held_drew (S := fun W => W.cell? ⟨b, 0, none⟩ = some (.int .i64 k.s) ∧ W.cell? ⟨b, 1, none⟩ = some (.int .i64 k.r) ∧ W.cell? ⟨b, 2, none⟩ = some (.int .i64 k.p) ∧ W.cell? ⟨b, 3, none⟩ = some (.int .i64 k.q) ∧ W.cell? ⟨q, 1 + i * 4, none⟩ = some (.int .i64 (fl i).s) ∧ W.cell? ⟨q, 1 + i * 4 + 1, none⟩ = some (.int .i64 (fl i).r) ∧ W.cell? ⟨q, 1 + i * 4 + 2, none⟩ = some (.int .i64 (fl i).p) ∧ W.cell? ⟨q, 1 + i * 4 + 3, none⟩ = some (.int .i64 (fl i).q)) (by kernel_rfl) (PS.out _ f0) (fun hHeld => ?_)
    refine wpAnyH_take (i := 0) (v := ?_) rfl (by kernel_rfl) (by kernel_rfl) (by kernel_rfl) (fun _ _ _ h => h) (Or.inl ⟨by rfl, ?_⟩) hHeld ?_
    rotate_left 1
    · (intro w hSw; (try dsimp only at hSw); go_simp <;> with_reducible rfl)
    try simp only [Act.put, List.setIfInBounds_toArray, List.set_cons_zero, List.set_cons_succ, List.getElem_toArray, List.getElem_cons_succ, List.getElem_cons_zero]
    refine wpAnyH_take (i := 1) (v := ?_) rfl (by kernel_rfl) (by kernel_rfl) (by kernel_rfl) (fun _ _ _ h => h) (Or.inl ⟨by rfl, ?_⟩) hHeld ?_
    rotate_left 1
    · (intro w hSw; (try dsimp only at hSw); go_simp <;> with_reducible rfl)
    try simp only [Act.put, List.setIfInBounds_toArray, List.set_cons_zero, List.set_cons_succ, List.getElem_toArray, List.getElem_cons_succ, List.getElem_cons_zero]
    refine wpAnyH_take (i := 2) (v := ?_) rfl (by kernel_rfl) (by kernel_rfl) (by kernel_rfl) (fun _ _ _ h => h) (Or.inl ⟨by rfl, ?_⟩) hHeld ?_
    rotate_left 1
    · (intro w hSw; (try dsimp only at hSw); go_simp <;> with_reducible rfl)
    try simp only [Act.put, List.setIfInBounds_toArray, List.set_cons_zero, List.set_cons_succ, List.getElem_toArray, List.getElem_cons_succ, List.getElem_cons_zero]
    refine wpAnyH_take (i := 3) (v := ?_) rfl (by kernel_rfl) (by kernel_rfl) (by kernel_rfl) (fun _ _ _ h => h) (Or.inl ⟨by rfl, ?_⟩) hHeld ?_
    rotate_left 1
    · (intro w hSw; (try dsimp only at hSw); go_simp <;> with_reducible rfl)
    try simp only [Act.put, List.setIfInBounds_toArray, List.set_cons_zero, List.set_cons_succ, List.getElem_toArray, List.getElem_cons_succ, List.getElem_cons_zero]
    refine wpAnyH_take (i := 4) (v := ?_) rfl (by kernel_rfl) (by kernel_rfl) (by kernel_rfl) (fun _ _ _ h => h) (Or.inl ⟨by rfl, ?_⟩) hHeld ?_
    rotate_left 1
    · (intro w hSw; (try dsimp only at hSw); go_simp <;> with_reducible rfl)
    try simp only [Act.put, List.setIfInBounds_toArray, List.set_cons_zero, List.set_cons_succ, List.getElem_toArray, List.getElem_cons_succ, List.getElem_cons_zero]
    refine wpAnyH_take (i := 5) (v := ?_) rfl (by kernel_rfl) (by kernel_rfl) (by kernel_rfl) (fun _ _ _ h => h) (Or.inl ⟨by rfl, ?_⟩) hHeld ?_
    rotate_left 1
    · (intro w hSw; (try dsimp only at hSw); go_simp <;> with_reducible rfl)
    try simp only [Act.put, List.setIfInBounds_toArray, List.set_cons_zero, List.set_cons_succ, List.getElem_toArray, List.getElem_cons_succ, List.getElem_cons_zero]
    refine wpAnyH_take (i := 6) (v := ?_) rfl (by kernel_rfl) (by kernel_rfl) (by kernel_rfl) (fun _ _ _ h => h) (Or.inl ⟨by rfl, ?_⟩) hHeld ?_
    rotate_left 1
    · (intro w hSw; (try dsimp only at hSw); go_simp <;> with_reducible rfl)
    try simp only [Act.put, List.setIfInBounds_toArray, List.set_cons_zero, List.set_cons_succ, List.getElem_toArray, List.getElem_cons_succ, List.getElem_cons_zero]
    refine wpAnyH_ready (rs := [7]) (by kernel_rfl) (by simp) ?_
    refine AllReadyH.cons rfl (fun K hK => ?_) AllReadyH.nil
    clear hHeld
    go_simp
    go_at_call 56
    refine (HKC.out _).mono ?_
    rintro e w9 ⟨rfl, hacc⟩
    have f9 := f0.trans hacc
    clear hacc
    refine hK.out _ _ (PS.out _ f9) (fun hHeld => ?_)
    clear hK K
    try simp only [Act.put, List.setIfInBounds_toArray, List.set_cons_zero, List.set_cons_succ, List.getElem_toArray, List.getElem_cons_succ, List.getElem_cons_zero]
    refine wpAnyH_take (i := 8) (v := ?_) rfl (by kernel_rfl) (by kernel_rfl) (by kernel_rfl) (fun _ _ _ h => h) (Or.inl ⟨by rfl, ?_⟩) hHeld ?_
    rotate_left 1
    · (intro w hSw; (try dsimp only at hSw); go_simp <;> with_reducible rfl)
    try simp only [Act.put, List.setIfInBounds_toArray, List.set_cons_zero, List.set_cons_succ, List.getElem_toArray, List.getElem_cons_succ, List.getElem_cons_zero]
    refine wpAnyH_done (by kernel_rfl) ?_ _
    clear hHeld
    have HB4 := hid (HB3.out.keep f9 (fun h => h))
    have HG4 := hid (HG3.out.keep0 f9)
    have HF4 := hid (HF3.out.trans f9)
    clear PS f0 f9 HKC d1 hc
    have PB : Hid (∀ W, Fr (· = q) w9 W → W.cell? ⟨b, 0, none⟩ = some (.int .i64 k.s) ∧ W.cell? ⟨b, 1, none⟩ = some (.int .i64 k.r) ∧ W.cell? ⟨b, 2, none⟩ = some (.int .i64 k.p) ∧ W.cell? ⟨b, 3, none⟩ = some (.int .i64 k.q)) := hid (fun W f => by
      have a := HB4.out.keep f (fun e => HBQ.out e)
      exact ⟨a.cell 0 rfl, a.cell 1 rfl, a.cell 2 rfl, a.cell 3 rfl⟩)
    have g0 : Fr (· = q) w9 w9.drew := (Fr.refl _ _).drew
    have HFIT : Hid (1 + i * 4 + 4 ≤ 50) := hid (by have := HI.out; omega)
    go_wp2_with fail
    refine wp_region_held_drew (S := fun W => W.cell? ⟨b, 0, none⟩ = some (.int .i64 k.s) ∧ W.cell? ⟨b, 1, none⟩ = some (.int .i64 k.r) ∧ W.cell? ⟨b, 2, none⟩ = some (.int .i64 k.p) ∧ W.cell? ⟨b, 3, none⟩ = some (.int .i64 k.q)) (by kernel_rfl) (PB.out _ g0) (fun hHeld => ?_)
    refine wpAnyH_take (i := 0) (v := ?_) rfl (by kernel_rfl) (by kernel_rfl) (by kernel_rfl) (fun _ _ _ h => h) (Or.inl ⟨by rfl, ?_⟩) hHeld ?_
    rotate_left 1
    · (intro w hSw; (try dsimp only at hSw); go_simp <;> with_reducible rfl)
    try simp only [Act.put, List.setIfInBounds_toArray, List.set_cons_zero, List.set_cons_succ, List.getElem_toArray, List.getElem_cons_succ, List.getElem_cons_zero]
    refine wpAnyH_take (i := 1) (v := ?_) rfl (by kernel_rfl) (by kernel_rfl) (by kernel_rfl) (fun _ _ _ h => h) (Or.inl ⟨by rfl, ?_⟩) hHeld ?_
    rotate_left 1
    · (intro w hSw; (try dsimp only at hSw); go_simp <;> with_reducible rfl)
    try simp only [Act.put, List.setIfInBounds_toArray, List.set_cons_zero, List.set_cons_succ, List.getElem_toArray, List.getElem_cons_succ, List.getElem_cons_zero]
    refine wpAnyH_take (i := 2) (v := ?_) rfl (by kernel_rfl) (by kernel_rfl) (by kernel_rfl) (fun _ _ _ h => h) (Or.inl ⟨by rfl, ?_⟩) hHeld ?_
    rotate_left 1
    · (intro w hSw; (try dsimp only at hSw); go_simp <;> with_reducible rfl)
    try simp only [Act.put, List.setIfInBounds_toArray, List.set_cons_zero, List.set_cons_succ, List.getElem_toArray, List.getElem_cons_succ, List.getElem_cons_zero]
    refine wpAnyH_take (i := 3) (v := ?_) rfl (by kernel_rfl) (by kernel_rfl) (by kernel_rfl) (fun _ _ _ h => h) (Or.inl ⟨by rfl, ?_⟩) hHeld ?_
    rotate_left 1
    · (intro w hSw; (try dsimp only at hSw); go_simp <;> with_reducible rfl)
    try simp only [Act.put, List.setIfInBounds_toArray, List.set_cons_zero, List.set_cons_succ, List.getElem_toArray, List.getElem_cons_succ, List.getElem_cons_zero]
    refine wpAnyH_take (i := 4) (v := ?_) rfl (by kernel_rfl) (by kernel_rfl) (by kernel_rfl) (fun _ _ _ h => h) (Or.inl ⟨by rfl, ?_⟩) hHeld ?_
    rotate_left 1
    · (intro w hSw; (try dsimp only at hSw); go_simp <;> with_reducible rfl)
    try simp only [Act.put, List.setIfInBounds_toArray, List.set_cons_zero, List.set_cons_succ, List.getElem_toArray, List.getElem_cons_succ, List.getElem_cons_zero]
    refine wpAnyH_take (i := 5) (v := ?_) rfl (by kernel_rfl) (by kernel_rfl) (by kernel_rfl) (fun _ _ _ h => h) (Or.inl ⟨by rfl, ?_⟩) hHeld ?_
    rotate_left 1
    · (intro w hSw; (try dsimp only at hSw); go_simp <;> with_reducible rfl)
    try simp only [Act.put, List.setIfInBounds_toArray, List.set_cons_zero, List.set_cons_succ, List.getElem_toArray, List.getElem_cons_succ, List.getElem_cons_zero]
    refine wpAnyH_ready (rs := [6]) (by kernel_rfl) (by simp) ?_
    refine AllReadyH.cons rfl (fun K hK => ?_) (AllReadyH.nil)
    skip
    clear hHeld
    refine step_store_part (by rfl) 32 (.tmp 30) (.tmp 27) (by rfl) aggKey q (1 + i * 4) (by rfl) (HG4.out.blk.drew) (.agg #[.int .i64 k.s, .int .i64 k.r, .int .i64 k.p, .int .i64 k.q]) (by rfl) (by rfl) (one_key k) HFIT.out _ (refA_setfl _ _ _ _ HI.out k) ?_
    intro w7 B7 f7 _
    refine hK.out _ _ (PB.out _ (g0.trans f7)) (fun hHeld => ?_)
    clear hK K
    try simp only [Act.put, List.setIfInBounds_toArray, List.set_cons_zero, List.set_cons_succ, List.getElem_toArray, List.getElem_cons_succ, List.getElem_cons_zero]
    refine wpAnyH_done (by kernel_rfl) ?_ _
    clear hHeld
    go_wp2_with fail
    go_ret
    exact ⟨rfl, by rw [HFL.out, HCE.out, if_pos HC.out]; exact HG4.out.num (g0.trans f7) B7, (HF4.out.mono (fun _ _ h => h.elim)).trans (g0.trans f7)⟩
  · have d1 : decide (0 < C) = false := decide_eq_false hc
    have HC := hid hc
    go_wp2_with fail
    refine wp_region_held_drew (S := fun W => W.cell? ⟨b, 0, none⟩ = some (.int .i64 k.s) ∧ W.cell? ⟨b, 1, none⟩ = some (.int .i64 k.r) ∧ W.cell? ⟨b, 2, none⟩ = some (.int .i64 k.p) ∧ W.cell? ⟨b, 3, none⟩ = some (.int .i64 k.q) ∧ W.cell? ⟨q, 1 + i * 4, none⟩ = some (.int .i64 (fl i).s) ∧ W.cell? ⟨q, 1 + i * 4 + 1, none⟩ = some (.int .i64 (fl i).r) ∧ W.cell? ⟨q, 1 + i * 4 + 2, none⟩ = some (.int .i64 (fl i).p) ∧ W.cell? ⟨q, 1 + i * 4 + 3, none⟩ = some (.int .i64 (fl i).q)) (by kernel_rfl) (PS.out _ f0) (fun hHeld => ?_)
    refine wpAnyH_take (i := 0) (v := ?_) rfl (by kernel_rfl) (by kernel_rfl) (by kernel_rfl) (fun _ _ _ h => h) (Or.inl ⟨by rfl, ?_⟩) hHeld ?_
    rotate_left 1
    · (intro w hSw; (try dsimp only at hSw); go_simp <;> with_reducible rfl)
    try simp only [Act.put, List.setIfInBounds_toArray, List.set_cons_zero, List.set_cons_succ, List.getElem_toArray, List.getElem_cons_succ, List.getElem_cons_zero]
    refine wpAnyH_take (i := 1) (v := ?_) rfl (by kernel_rfl) (by kernel_rfl) (by kernel_rfl) (fun _ _ _ h => h) (Or.inl ⟨by rfl, ?_⟩) hHeld ?_
    rotate_left 1
    · (intro w hSw; (try dsimp only at hSw); go_simp <;> with_reducible rfl)
    try simp only [Act.put, List.setIfInBounds_toArray, List.set_cons_zero, List.set_cons_succ, List.getElem_toArray, List.getElem_cons_succ, List.getElem_cons_zero]
    refine wpAnyH_take (i := 2) (v := ?_) rfl (by kernel_rfl) (by kernel_rfl) (by kernel_rfl) (fun _ _ _ h => h) (Or.inl ⟨by rfl, ?_⟩) hHeld ?_
    rotate_left 1
    · (intro w hSw; (try dsimp only at hSw); go_simp <;> with_reducible rfl)
    try simp only [Act.put, List.setIfInBounds_toArray, List.set_cons_zero, List.set_cons_succ, List.getElem_toArray, List.getElem_cons_succ, List.getElem_cons_zero]
    refine wpAnyH_take (i := 3) (v := ?_) rfl (by kernel_rfl) (by kernel_rfl) (by kernel_rfl) (fun _ _ _ h => h) (Or.inl ⟨by rfl, ?_⟩) hHeld ?_
    rotate_left 1
    · (intro w hSw; (try dsimp only at hSw); go_simp <;> with_reducible rfl)
    try simp only [Act.put, List.setIfInBounds_toArray, List.set_cons_zero, List.set_cons_succ, List.getElem_toArray, List.getElem_cons_succ, List.getElem_cons_zero]
    refine wpAnyH_take (i := 4) (v := ?_) rfl (by kernel_rfl) (by kernel_rfl) (by kernel_rfl) (fun _ _ _ h => h) (Or.inl ⟨by rfl, ?_⟩) hHeld ?_
    rotate_left 1
    · (intro w hSw; (try dsimp only at hSw); go_simp <;> with_reducible rfl)
    try simp only [Act.put, List.setIfInBounds_toArray, List.set_cons_zero, List.set_cons_succ, List.getElem_toArray, List.getElem_cons_succ, List.getElem_cons_zero]
    refine wpAnyH_take (i := 5) (v := ?_) rfl (by kernel_rfl) (by kernel_rfl) (by kernel_rfl) (fun _ _ _ h => h) (Or.inl ⟨by rfl, ?_⟩) hHeld ?_
    rotate_left 1
    · (intro w hSw; (try dsimp only at hSw); go_simp <;> with_reducible rfl)
    try simp only [Act.put, List.setIfInBounds_toArray, List.set_cons_zero, List.set_cons_succ, List.getElem_toArray, List.getElem_cons_succ, List.getElem_cons_zero]
    refine wpAnyH_take (i := 6) (v := ?_) rfl (by kernel_rfl) (by kernel_rfl) (by kernel_rfl) (fun _ _ _ h => h) (Or.inl ⟨by rfl, ?_⟩) hHeld ?_
    rotate_left 1
    · (intro w hSw; (try dsimp only at hSw); go_simp <;> with_reducible rfl)
    try simp only [Act.put, List.setIfInBounds_toArray, List.set_cons_zero, List.set_cons_succ, List.getElem_toArray, List.getElem_cons_succ, List.getElem_cons_zero]
    refine wpAnyH_ready (rs := [7]) (by kernel_rfl) (by simp) ?_
    refine AllReadyH.cons rfl (fun K hK => ?_) AllReadyH.nil
    clear hHeld
    go_simp
    go_at_call 56
    refine (HKC.out _).mono ?_
    rintro e w9 ⟨rfl, hacc⟩
    have f9 := f0.trans hacc
    clear hacc
    refine hK.out _ _ (PS.out _ f9) (fun hHeld => ?_)
    clear hK K
    try simp only [Act.put, List.setIfInBounds_toArray, List.set_cons_zero, List.set_cons_succ, List.getElem_toArray, List.getElem_cons_succ, List.getElem_cons_zero]
    refine wpAnyH_take (i := 8) (v := ?_) rfl (by kernel_rfl) (by kernel_rfl) (by kernel_rfl) (fun _ _ _ h => h) (Or.inl ⟨by rfl, ?_⟩) hHeld ?_
    rotate_left 1
    · (intro w hSw; (try dsimp only at hSw); go_simp <;> with_reducible rfl)
    try simp only [Act.put, List.setIfInBounds_toArray, List.set_cons_zero, List.set_cons_succ, List.getElem_toArray, List.getElem_cons_succ, List.getElem_cons_zero]
    refine wpAnyH_done (by kernel_rfl) ?_ _
    clear hHeld
    go_wp2_with fail
    go_ret
    exact ⟨rfl, by rw [HFL.out, HCE.out, if_neg (by have := HC.out; omega)]; exact HG3.out.keep0 f9, (HF3.out.trans f9).mono (fun _ _ h => h.elim)⟩
end
end Go.Proofs.Ytfkffjjkmckpnaa
