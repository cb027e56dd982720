/-
  ORDERS: New, Next, Done, of a window of the statements' own data. Conditions: numbers up to 1000.
-/
import Derived.Test.YtclaggjlacinlaaWin4
import Derived.Test.YtclaggjlacinlaaRow
namespace Go.Proofs.Ytclaggjlacinlaa
open Go.RowKit
set_option linter.unusedSimpArgs false

def datc (x : Int × (Int × Bool)) : List Value := [.int .i64 1, .int .i64 1, .int .i64 x.1, .int .i64 1, .int .i64 0, .int .i64 x.2.1, .int .i64 1, .int .i64 1, .int .i64 0, .int .i64 0, .int .i64 1, .int .i64 1, .bool x.2.2, .int .i64 0, .int .i64 0, .int .i64 0, .int .i64 0, .slice none 0 0]
def flatD (l : List (Int × (Int × Bool))) : List Value := l.flatMap datc
theorem flatD_len (l : List (Int × (Int × Bool))) : (flatD l).length = l.length * 18 := by
  induction l with
  | nil => rfl
  | cons x r ih => simp only [flatD, List.flatMap_cons, List.length_append, List.length_cons] at ih ⊢; rw [ih]; simp [datc]; omega
theorem flatD_append (a b : List (Int × (Int × Bool))) : flatD (a ++ b) = flatD a ++ flatD b := by simp [flatD]
theorem datc_one (x : Int × (Int × Bool)) : ∀ u ∈ datc x, u.oneCell' = true := fun u hu => one_dat x.1 x.2.1 x.2.2 u hu
theorem blk_src {w : World} {b : Nat} {cs : Array Value} {t : TypeId} (h : Blk w b cs t) (xs : List Value) (hx : cs.toList = xs) : ∀ j u, xs[j]? = some u → w.cell? ((⟨b, 0, none⟩ : Addr).add j) = some u := fun j u hu => by
  rw [Addr.add_lit, Nat.zero_add]
  exact h.cell j (by rw [← hx] at hu; simpa using hu)
theorem infoData : (Try.prog.info? 37).map (fun i => (i.zero, i.size, i.bytes)) = some (some (.agg #[.int .i64 0, .int .i64 0, .int .i64 0, .int .i64 0, .int .i64 0, .int .i64 0, .int .i64 0, .int .i64 0, .int .i64 0, .int .i64 0, .int .i64 0, .int .i64 0, .bool false, .int .i64 0, .int .i64 0, .int .i64 0, .int .i64 0, .slice none 0 0]), 18, 160) := by kernel_rfl
theorem dataI : ∃ i, Try.prog.info? 37 = some i ∧ i.zero = some (.agg #[.int .i64 0, .int .i64 0, .int .i64 0, .int .i64 0, .int .i64 0, .int .i64 0, .int .i64 0, .int .i64 0, .int .i64 0, .int .i64 0, .int .i64 0, .int .i64 0, .bool false, .int .i64 0, .int .i64 0, .int .i64 0, .int .i64 0, .slice none 0 0]) ∧ i.size = 18 ∧ i.bytes = 160 := by
  have := infoData
  cases h : Try.prog.info? 37 with
  | none => rw [h] at this; simp at this
  | some i => rw [h] at this; simp at this; exact ⟨i, rfl, by simpa using this.1, this.2.1, this.2.2⟩

/-- What is delivered from d on. -/
def nx (M : List (Int × (Int × Bool))) (safe : Int) : Nat → Int → List (Int × (Int × Bool)) × Int
  | 0, d => ([], d)
  | f + 1, d => match wl M (d + 1) with
    | none => ([], d)
    | some q => if q.2 = true ∧ safe < d + 1 then ([], d) else ((if q.1 = 5 then (nx M safe f (d + 1)).1 else (d + 1, q) :: (nx M safe f (d + 1)).1), (nx M safe f (d + 1)).2)
def nxt (M : List (Int × (Int × Bool))) (safe d : Int) : List (Int × (Int × Bool)) × Int := nx M safe (1001 - d).toNat d
theorem nxt_none {M : List (Int × (Int × Bool))} {safe d : Int} (hd : d ≤ 1000) (h : wl M (d + 1) = none) : nxt M safe d = ([], d) := by
  unfold nxt
  rw [show (1001 - d).toNat = (1000 - d).toNat + 1 by omega]
  unfold nx
  rw [h]
theorem nxt_wait {M : List (Int × (Int × Bool))} {safe d : Int} (hd : d ≤ 1000) {q : Int × Bool} (h : wl M (d + 1) = some q) (hs : q.2 = true ∧ safe < d + 1) : nxt M safe d = ([], d) := by
  unfold nxt
  rw [show (1001 - d).toNat = (1000 - d).toNat + 1 by omega]
  unfold nx
  rw [h]
  simp only
  rw [if_pos hs]
theorem nxt_go {M : List (Int × (Int × Bool))} {safe d : Int} (hd : d ≤ 1000) {q : Int × Bool} (h : wl M (d + 1) = some q) (hs : ¬ (q.2 = true ∧ safe < d + 1)) : nxt M safe d = ((if q.1 = 5 then (nxt M safe (d + 1)).1 else (d + 1, q) :: (nxt M safe (d + 1)).1), (nxt M safe (d + 1)).2) := by
  unfold nxt
  rw [show (1001 - d).toNat = (1000 - d).toNat + 1 by omega, show (1001 - (d + 1)).toNat = (1000 - d).toNat by omega]
  rw [nx, h]
  simp only
  rw [if_neg hs]

def OD (w : World) (o : Nat) (d : Int) : Prop := Blk w o #[.bool true, .int .i64 d] 53
theorem ordnew_any (w : World) : Calls Try.prog 8 #[] w fun e w' => ∃ o, e = .returned (.pointer (some ⟨o, 0, none⟩)) ∧ OD w' o 0 ∧ Fr (fun _ => False) w w' ∧ w.heap.size ≤ o := by
  go_enter Try.func8, Try.ntmps8
  go_wp2
  go_ret
  exact ⟨_, rfl, Blk.new _ _ _, (Fr.refl _ _).alloc _, Nat.le_refl _⟩
theorem done_any {w : World} {o : Nat} {d : Int} (h : OD w o d) : Calls Try.prog 13 #[.pointer (some ⟨o, 0, none⟩)] w fun e w' => e = .returned (.int .i64 d) ∧ w = w' := by
  have c1 : w.cell? ⟨o, 1, none⟩ = some (.int .i64 d) := Blk.cell h 1 rfl
  go_enter Try.func13, Try.ntmps13
  go_wp2_with fail
  go_ret
  exact ⟨rfl, rfl⟩
theorem WS.keepS {S : Nat → Prop} {w0 w w' : World} {g b : Nat} {M : List (Int × (Int × Bool))} (h : WS w0 w g b M) (f : Fr S w w') (hg : ¬ S g) (hb : ¬ S b) (h0 : ∀ k, S k → w0.heap.size ≤ k) : WS w0 w' g b M := by
  obtain ⟨a, hi, q, r⟩ := h.ex
  exact ⟨⟨a, hi, q.keep f hg, r⟩, h.map.keep f hb, h.keys, h.fr.step f (fun k hk hm => by have := h0 k hm; omega), h.lo, h.lob⟩

theorem WS.row {w0 w w' : World} {g b n : Nat} {v : Value} {xs : List Value} {M : List (Int × (Int × Bool))} (h : WS w0 w g b M) (hr : w.ownsRow 0 37 18 v n xs) (ha : Above w0.heap.size (footOf v)) (f : Fr (· ∈ footOf v) w w') : WS w0 w' g b M := by
  refine h.keepS f (fun hk => ?_) (fun hk => ?_) ha
  · obtain ⟨_, _, hb, _⟩ := h.ex
    obtain ⟨cs, bl⟩ := row_type hr hk
    exact absurd (bl.type hb) (by decide)
  · obtain ⟨cs, bl⟩ := row_type hr hk
    obtain ⟨es, c, hm, _⟩ := h.map
    unfold Blk at bl; rw [hm] at bl; simp at bl
set_option maxRecDepth 100000 in
set_option maxHeartbeats 4000000 in
theorem next_any {w0 w : World} {g b o : Nat} {M : List (Int × (Int × Bool))} (d0 safe : Int) (h : WS w0 w g b M) (ho : OD w o d0) (hlo : w0.heap.size ≤ o) (hd0 : 0 ≤ d0) (hd1 : d0 ≤ 1000) :
    Calls Try.prog 12 #[.pointer (some ⟨o, 0, none⟩), .pointer (some ⟨g, 0, none⟩), .int .i64 safe] w fun e w' => ∃ v, e = .returned (.tuple #[v, .int .i64 0]) ∧ w'.ownsRow 0 37 18 v (nxt M safe d0).1.length (flatD (nxt M safe d0).1) ∧ OD w' o (nxt M safe d0).2 ∧ WS w0 w' g b M ∧ Fr (· = o) w w' ∧ Above w.heap.size (footOf v) := by
  obtain ⟨R, hR⟩ : ∃ R, R = nxt M safe d0 := ⟨_, rfl⟩
  rw [← hR]
  have HR := hid hR
  have HSZ := hid h.fr.size
  have HW := hid h
  have HO := hid ho
  have hgo : g ≠ o ∧ b ≠ o := by
    obtain ⟨_, _, hb, _⟩ := h.ex
    obtain ⟨es, c, hm, _⟩ := h.map
    refine ⟨fun e => ?_, fun e => ?_⟩
    · subst e; exact absurd (hb.type ho) (by decide)
    · subst e; unfold OD Blk at ho; rw [hm] at ho; simp at ho
  have c0 : w.cell? ⟨o, 0, none⟩ = some (.bool true) := Blk.cell ho 0 rfl
  clear h ho hR
  go_enter Try.func12, Try.ntmps12
  go_wp2_with fail
  go_step3
  go_wp2_with fail
  go_step3
  go_wp2_with fail
  go_loopg [8] (1000 - d0).toNat (fun k v wr => ∃ (d : Int) (acc : List (Int × (Int × Bool))), k = (1000 - d).toNat ∧ 0 ≤ d ∧ d ≤ 1000 ∧ (acc.length : Int) ≤ d ∧ wr.ownsRow 0 37 18 v acc.length (flatD acc) ∧ OD wr o d ∧ WS w0 wr g b M ∧ Fr (· = o) w wr ∧ Above w.heap.size (footOf v) ∧ acc ++ (nxt M safe d).1 = R.1 ∧ (nxt M safe d).2 = R.2)
  case atStart =>
    refine ⟨d0, [], rfl, hd0, hd1, by simpa using hd0, World.ownsRow_nil _ _ _ _, HO.out, HW.out, Fr.refl _ _, fun k hk => by simp [footOf, Value.ownBlock] at hk, ?_, ?_⟩
    · rw [← HR.out]; rfl
    · rw [← HR.out]
  case round =>
    clear HW HO c0
    obtain ⟨d, acc, hk, hd2, hd3, hacc, hrow, hod, hws, hfr, hab, hout, hdn⟩ := hrel
    obtain ⟨ao, cap, rfl⟩ := rowN_shape hrow
    have HK := hid hk
    have HROW := hid hrow
    have HOD := hid hod
    have HWS := hid hws
    have HFR := hid hfr
    have HAB := hid hab
    have HOUT := hid hout
    have HDN := hid hdn
    have c1 : wr.cell? ⟨o, 1, none⟩ = some (.int .i64 d) := Blk.cell hod 1 rfl
    clear hk hrow hod hws hfr hab hout hdn
    cases hq : wl M (d + 1) with
    | none =>
      have HE := hid (nxt_none (safe := safe) hd3 hq)
      have HQ := hid hq
      clear hq
      go_wp2_with fail
      refine (get_no (d + 1) HWS.out HQ.out).mono ?_
      rintro e w1 ⟨rfl, f1⟩
      have HF1 := hid f1
      clear c1 f1
      go_wp2_with (refine wpList_new rfl 37 rfl #[.int .i64 0, .int .i64 0, .int .i64 0, .int .i64 0, .int .i64 0, .int .i64 0, .int .i64 0, .int .i64 0, .int .i64 0, .int .i64 0, .int .i64 0, .int .i64 0, .bool false, .int .i64 0, .int .i64 0, .int .i64 0, .int .i64 0, .slice none 0 0] zeroData ?_)
      intro x w2 hx B2 f2 z2
      have HX := hid hx
      have HF2 := hid (HF1.out.trans f2)
      clear hx f2 z2
      go_wp2_with (refine wpList_store_part rfl 37 _ _ rfl aggData x 0 rfl B2 (.agg #[.int .i64 0, .int .i64 0, .int .i64 0, .int .i64 0, .int .i64 0, .int .i64 0, .int .i64 0, .int .i64 0, .int .i64 0, .int .i64 0, .int .i64 0, .int .i64 0, .bool false, .int .i64 0, .int .i64 0, .int .i64 0, .int .i64 0, .slice none 0 0]) rfl rfl (one_zd) (by decide) #[.int .i64 0, .int .i64 0, .int .i64 0, .int .i64 0, .int .i64 0, .int .i64 0, .int .i64 0, .int .i64 0, .int .i64 0, .int .i64 0, .int .i64 0, .int .i64 0, .bool false, .int .i64 0, .int .i64 0, .int .i64 0, .int .i64 0, .slice none 0 0] rfl ?_)
      intro w3 B3 f3 z3
      have hxw : wr.heap.size ≤ x := by have := HX.out; have := HF1.out.size; omega
      have HF3 := hid (HF2.out.into f3 hxw)
      clear B2 f3 z3
      go_wp2_with (first | (refine wpList_load_part rfl 35 _ rfl aggMsg x 5 rfl B3 #[.int .i64 0, .int .i64 0, .int .i64 0, .int .i64 0, .int .i64 0, .int .i64 0, .int .i64 0, .bool false, .int .i64 0, .int .i64 0, .int .i64 0, .int .i64 0, .slice none 0 0] rfl rfl ?_) | (refine wpList_new rfl 35 rfl #[.int .i64 0, .int .i64 0, .int .i64 0, .int .i64 0, .int .i64 0, .int .i64 0, .int .i64 0, .bool false, .int .i64 0, .int .i64 0, .int .i64 0, .int .i64 0, .slice none 0 0] zeroMsg ?_))
      intro y w4 hy B4 f4 z4
      have HY := hid hy
      have HF4 := hid (HF3.out.trans f4)
      have BX4 := B3.keep f4 (fun h => h)
      have hxy : ¬ x = y := by have := B3.lt; omega
      clear hy f4 z4 B3
      go_wp2_with (refine wpList_store_part rfl 35 _ _ rfl aggMsg y 0 rfl B4 (.agg #[.int .i64 0, .int .i64 0, .int .i64 0, .int .i64 0, .int .i64 0, .int .i64 0, .int .i64 0, .bool false, .int .i64 0, .int .i64 0, .int .i64 0, .int .i64 0, .slice none 0 0]) rfl rfl (one_zm) (by decide) #[.int .i64 0, .int .i64 0, .int .i64 0, .int .i64 0, .int .i64 0, .int .i64 0, .int .i64 0, .bool false, .int .i64 0, .int .i64 0, .int .i64 0, .int .i64 0, .slice none 0 0] rfl ?_)
      intro w5 B5 f5 z5
      have hyw : wr.heap.size ≤ y := by have := HY.out; have := HF3.out.size; omega
      have HF5 := hid (HF4.out.into f5 hyw)
      have BX5 := BX4.keep f5 hxy
      clear f5 z5 BX4 B4
      go_wp2_with fail
      rw [Exit.noGoto_ret]
      go_ret2
      have hd := HDN.out
      have ho := HOUT.out
      rw [HE.out] at hd ho
      simp only [List.append_nil] at hd ho
      refine ⟨_, rfl, ?_, ?_, HWS.out.keep HF5.out, HFR.out.trans (HF5.out.mono (fun _ _ h => h.elim)), HAB.out⟩
      · rw [← ho]; exact row_keep HROW.out HF5.out (fun _ _ h => h)
      · rw [← hd]; exact HOD.out.keep HF5.out (fun h => h)
    | some q =>
      obtain ⟨kd, s⟩ := q
      have hkey := HWS.out.keys _ (wl_mem hq)
      simp only at hkey
      by_cases hs : s = true ∧ safe < d + 1
      · have HE := hid (nxt_wait (safe := safe) hd3 hq hs)
        have HQ := hid hq
        obtain ⟨hs1, hs2⟩ := hs
        subst hs1
        clear hq
        go_wp2_with fail
        refine (get_yes (d + 1) kd true HWS.out HQ.out).mono ?_
        rintro e w1 ⟨rfl, f1⟩
        have HF1 := hid f1
        clear c1 f1
        go_wp2_with (refine wpList_new rfl 37 rfl #[.int .i64 0, .int .i64 0, .int .i64 0, .int .i64 0, .int .i64 0, .int .i64 0, .int .i64 0, .int .i64 0, .int .i64 0, .int .i64 0, .int .i64 0, .int .i64 0, .bool false, .int .i64 0, .int .i64 0, .int .i64 0, .int .i64 0, .slice none 0 0] zeroData ?_)
        intro x w2 hx B2 f2 z2
        have HX := hid hx
        have HF2 := hid (HF1.out.trans f2)
        clear hx f2 z2
        go_wp2_with (refine wpList_store_part rfl 37 _ _ rfl aggData x 0 rfl B2 (.agg #[.int .i64 1, .int .i64 1, .int .i64 (d + 1), .int .i64 1, .int .i64 0, .int .i64 kd, .int .i64 1, .int .i64 1, .int .i64 0, .int .i64 0, .int .i64 1, .int .i64 1, .bool true, .int .i64 0, .int .i64 0, .int .i64 0, .int .i64 0, .slice none 0 0]) rfl rfl (one_dat (d + 1) kd true) (by decide) #[.int .i64 1, .int .i64 1, .int .i64 (d + 1), .int .i64 1, .int .i64 0, .int .i64 kd, .int .i64 1, .int .i64 1, .int .i64 0, .int .i64 0, .int .i64 1, .int .i64 1, .bool true, .int .i64 0, .int .i64 0, .int .i64 0, .int .i64 0, .slice none 0 0] rfl ?_)
        intro w3 B3 f3 z3
        have hxw : wr.heap.size ≤ x := by have := HX.out; have := HF1.out.size; omega
        have HF3 := hid (HF2.out.into f3 hxw)
        clear B2 f3 z3
        go_wp2_with (first | (refine wpList_load_part rfl 35 _ rfl aggMsg x 5 rfl B3 #[.int .i64 kd, .int .i64 1, .int .i64 1, .int .i64 0, .int .i64 0, .int .i64 1, .int .i64 1, .bool true, .int .i64 0, .int .i64 0, .int .i64 0, .int .i64 0, .slice none 0 0] rfl rfl ?_) | (refine wpList_new rfl 35 rfl #[.int .i64 0, .int .i64 0, .int .i64 0, .int .i64 0, .int .i64 0, .int .i64 0, .int .i64 0, .bool false, .int .i64 0, .int .i64 0, .int .i64 0, .int .i64 0, .slice none 0 0] zeroMsg ?_))
        intro y w4 hy B4 f4 z4
        have HY := hid hy
        have HF4 := hid (HF3.out.trans f4)
        have BX4 := B3.keep f4 (fun h => h)
        have hxy : ¬ x = y := by have := B3.lt; omega
        clear hy f4 z4 B3
        go_wp2_with (refine wpList_store_part rfl 35 _ _ rfl aggMsg y 0 rfl B4 (.agg #[.int .i64 kd, .int .i64 1, .int .i64 1, .int .i64 0, .int .i64 0, .int .i64 1, .int .i64 1, .bool true, .int .i64 0, .int .i64 0, .int .i64 0, .int .i64 0, .slice none 0 0]) rfl rfl (one_msg kd true) (by decide) #[.int .i64 kd, .int .i64 1, .int .i64 1, .int .i64 0, .int .i64 0, .int .i64 1, .int .i64 1, .bool true, .int .i64 0, .int .i64 0, .int .i64 0, .int .i64 0, .slice none 0 0] rfl ?_)
        intro w5 B5 f5 z5
        have hyw : wr.heap.size ≤ y := by have := HY.out; have := HF3.out.size; omega
        have HF5 := hid (HF4.out.into f5 hyw)
        have BX5 := BX4.keep f5 hxy
        clear f5 z5 BX4 B4
        have m7 : w5.cell? ⟨y, 7, none⟩ = some (.bool true) := B5.cell 7 rfl
        have x2 : w5.cell? ⟨x, 2, none⟩ = some (.int .i64 (d + 1)) := BX5.cell 2 rfl
        clear B5 BX5
        go_wp2_with fail
        rw [Exit.noGoto_ret]
        go_ret2
        have hd := HDN.out
        have ho := HOUT.out
        rw [HE.out] at hd ho
        simp only [List.append_nil] at hd ho
        refine ⟨_, rfl, ?_, ?_, HWS.out.keep HF5.out, HFR.out.trans (HF5.out.mono (fun _ _ h => h.elim)), HAB.out⟩
        · rw [← ho]; exact row_keep HROW.out HF5.out (fun _ _ h => h)
        · rw [← hd]; exact HOD.out.keep HF5.out (fun h => h)
      · have HE := hid (nxt_go (safe := safe) hd3 hq hs)
        have HQ := hid hq
        clear hq
        have hex : s = false ∨ (s = true ∧ ¬ safe < d + 1) := by
          cases s with
          | false => exact .inl rfl
          | true => exact .inr ⟨rfl, fun h => hs ⟨rfl, h⟩⟩
        clear hs
        rcases hex with rfl | ⟨rfl, hs2⟩
        · skip
          go_wp2_with fail
          refine (get_yes (d + 1) kd false HWS.out HQ.out).mono ?_
          rintro e w1 ⟨rfl, f1⟩
          have HF1 := hid f1
          clear c1 f1
          go_wp2_with (refine wpList_new rfl 37 rfl #[.int .i64 0, .int .i64 0, .int .i64 0, .int .i64 0, .int .i64 0, .int .i64 0, .int .i64 0, .int .i64 0, .int .i64 0, .int .i64 0, .int .i64 0, .int .i64 0, .bool false, .int .i64 0, .int .i64 0, .int .i64 0, .int .i64 0, .slice none 0 0] zeroData ?_)
          intro x w2 hx B2 f2 z2
          have HX := hid hx
          have HF2 := hid (HF1.out.trans f2)
          clear hx f2 z2
          go_wp2_with (refine wpList_store_part rfl 37 _ _ rfl aggData x 0 rfl B2 (.agg #[.int .i64 1, .int .i64 1, .int .i64 (d + 1), .int .i64 1, .int .i64 0, .int .i64 kd, .int .i64 1, .int .i64 1, .int .i64 0, .int .i64 0, .int .i64 1, .int .i64 1, .bool false, .int .i64 0, .int .i64 0, .int .i64 0, .int .i64 0, .slice none 0 0]) rfl rfl (one_dat (d + 1) kd false) (by decide) #[.int .i64 1, .int .i64 1, .int .i64 (d + 1), .int .i64 1, .int .i64 0, .int .i64 kd, .int .i64 1, .int .i64 1, .int .i64 0, .int .i64 0, .int .i64 1, .int .i64 1, .bool false, .int .i64 0, .int .i64 0, .int .i64 0, .int .i64 0, .slice none 0 0] rfl ?_)
          intro w3 B3 f3 z3
          have hxw : wr.heap.size ≤ x := by have := HX.out; have := HF1.out.size; omega
          have HF3 := hid (HF2.out.into f3 hxw)
          clear B2 f3 z3
          go_wp2_with (first | (refine wpList_load_part rfl 35 _ rfl aggMsg x 5 rfl B3 #[.int .i64 kd, .int .i64 1, .int .i64 1, .int .i64 0, .int .i64 0, .int .i64 1, .int .i64 1, .bool false, .int .i64 0, .int .i64 0, .int .i64 0, .int .i64 0, .slice none 0 0] rfl rfl ?_) | (refine wpList_new rfl 35 rfl #[.int .i64 0, .int .i64 0, .int .i64 0, .int .i64 0, .int .i64 0, .int .i64 0, .int .i64 0, .bool false, .int .i64 0, .int .i64 0, .int .i64 0, .int .i64 0, .slice none 0 0] zeroMsg ?_))
          intro y w4 hy B4 f4 z4
          have HY := hid hy
          have HF4 := hid (HF3.out.trans f4)
          have BX4 := B3.keep f4 (fun h => h)
          have hxy : ¬ x = y := by have := B3.lt; omega
          clear hy f4 z4 B3
          go_wp2_with (refine wpList_store_part rfl 35 _ _ rfl aggMsg y 0 rfl B4 (.agg #[.int .i64 kd, .int .i64 1, .int .i64 1, .int .i64 0, .int .i64 0, .int .i64 1, .int .i64 1, .bool false, .int .i64 0, .int .i64 0, .int .i64 0, .int .i64 0, .slice none 0 0]) rfl rfl (one_msg kd false) (by decide) #[.int .i64 kd, .int .i64 1, .int .i64 1, .int .i64 0, .int .i64 0, .int .i64 1, .int .i64 1, .bool false, .int .i64 0, .int .i64 0, .int .i64 0, .int .i64 0, .slice none 0 0] rfl ?_)
          intro w5 B5 f5 z5
          have hyw : wr.heap.size ≤ y := by have := HY.out; have := HF3.out.size; omega
          have HF5 := hid (HF4.out.into f5 hyw)
          have BX5 := BX4.keep f5 hxy
          clear f5 z5 BX4 B4
          have m7 : w5.cell? ⟨y, 7, none⟩ = some (.bool false) := B5.cell 7 rfl
          have m0 : w5.cell? ⟨y, 0, none⟩ = some (.int .i64 kd) := B5.cell 0 rfl
          by_cases h5 : kd = 5
          · subst h5
            have e1 : w5.cell? ⟨o, 1, none⟩ = some (.int .i64 d) := Blk.cell (HOD.out.keep HF5.out (fun h => h)) 1 rfl
            have y1 : w5.frozen? ⟨o, 1, none⟩ = false := Blk.free (HOD.out.keep HF5.out (fun h => h)) 1
            clear B5 BX5
            go_wp2_with fail
            have f9 : Fr (· = o) w5 (w5.setCell ⟨o, 1, none⟩ (.int .i64 (d + 1))) := (Fr.refl _ w5).set1 1 _
            have hoz := HAB.out
            go_roundg (999 - d).toNat
            case measure => have := HK.out; omega
            case rel =>
              refine ⟨d + 1, acc, by omega, by omega, by omega, by omega, row_keep (row_keep HROW.out HF5.out (fun _ _ h => h)) f9 (fun k hk e => ?_), (HOD.out.keep HF5.out (fun h => h)).set' 1 _ rfl, (HWS.out.keep HF5.out).keepS f9 hgo.1 hgo.2 (fun k e => by omega), (HFR.out.trans (HF5.out.mono (fun _ _ h => h.elim))).trans f9, HAB.out, ?_, ?_⟩
              · subst e
                obtain ⟨cs, bl⟩ := row_type HROW.out hk
                exact absurd (bl.type HOD.out) (by decide)
              · rw [← HOUT.out, HE.out]; simp
              · rw [← HDN.out, HE.out]
          · skip
            obtain ⟨i0, i1, i2, i3, i4⟩ := dataI
            go_wp2_with (first | (refine wpList_load_part rfl 37 _ rfl aggData x 0 rfl BX5 #[.int .i64 1, .int .i64 1, .int .i64 (d + 1), .int .i64 1, .int .i64 0, .int .i64 kd, .int .i64 1, .int .i64 1, .int .i64 0, .int .i64 0, .int .i64 1, .int .i64 1, .bool false, .int .i64 0, .int .i64 0, .int .i64 0, .int .i64 0, .slice none 0 0] rfl rfl ?_) | (refine wpList_build_one rfl 44 _ rfl Try.underlying44 aggData (by decide) (by decide) zeroData #[.int .i64 1, .int .i64 1, .int .i64 (d + 1), .int .i64 1, .int .i64 0, .int .i64 kd, .int .i64 1, .int .i64 1, .int .i64 0, .int .i64 0, .int .i64 1, .int .i64 1, .bool false, .int .i64 0, .int .i64 0, .int .i64 0, .int .i64 0, .slice none 0 0] rfl rfl ?_))
            intro z w6 hz B6 f6 z6
            have HF6 := hid (HF5.out.trans f6)
            have HROW6 := hid (row_keep HROW.out HF6.out (fun _ _ h => h))
            clear hz f6 z6 B5 BX5
            have hlen : acc.length ≤ 1000 := by omega
            go_wp2_with (refine wpList_append_row rfl _ _ 44 rfl 37 i0 _ 18 160 Try.underlying44 i1 i2 i3 i4 rfl (by decide) (.slice ao acc.length cap) acc.length (flatD acc) rfl HROW6.out ⟨z, 0, none⟩ 1 1 (datc (d + 1, (kd, false))) rfl rfl (blk_src B6 _ rfl) (datc_one _) (by unfold maxLen; omega) (by omega) ?_)
            intro v' w7 hr7 f7 g7 _
            obtain ⟨ao', cap', rfl⟩ := rowN_shape hr7
            have HR7 := hid hr7
            have HG7 := hid g7
            have HFS7 := hid f7
            have hod7 := (HOD.out.keep HF6.out (fun h => h)).keep_row HROW6.out (by decide) f7
            have HOD7 := hid hod7
            have HW7 := hid ((HWS.out.keep HF6.out).row HROW6.out (fun k hk => Nat.le_trans HSZ.out (HAB.out k hk)) f7)
            have e1 : w7.cell? ⟨o, 1, none⟩ = some (.int .i64 d) := Blk.cell hod7 1 rfl
            have y1 : w7.frozen? ⟨o, 1, none⟩ = false := Blk.free hod7 1
            clear hr7 f7 g7 hod7 B6 i0 i1 i2 i3 i4
            go_wp2_with fail
            have f9 : Fr (· = o) w7 (w7.setCell ⟨o, 1, none⟩ (.int .i64 (d + 1))) := (Fr.refl _ w7).set1 1 _
            go_roundg (999 - d).toNat
            case measure => have := HK.out; omega
            case rel =>
              refine ⟨d + 1, acc ++ [(d + 1, (kd, false))], by omega, by omega, by omega, by simp; omega, ?_, HOD7.out.set' 1 _ rfl, HW7.out.keepS f9 hgo.1 hgo.2 (fun k e => by omega), ?_, fun k hk => ?_, ?_, ?_⟩
              · rw [List.length_append, flatD_append]
                refine row_keep (by simpa [flatD] using HR7.out) f9 (fun k hk e => ?_)
                subst e
                obtain ⟨cs, bl⟩ := row_type HR7.out hk
                exact absurd (bl.type HOD7.out) (by decide)
              · refine ((HFR.out.trans (HF6.out.mono (fun _ _ h => h.elim))).step HFS7.out (fun k hk hm => ?_)).trans f9
                have := HAB.out k hm; omega
              · rcases HG7.out k hk with h | h
                · exact HAB.out k h
                · have := HF6.out.size; have := HFR.out.size; omega
              · rw [← HOUT.out, HE.out]; simp [h5]
              · rw [← HDN.out, HE.out]
        · skip
          go_wp2_with fail
          refine (get_yes (d + 1) kd true HWS.out HQ.out).mono ?_
          rintro e w1 ⟨rfl, f1⟩
          have HF1 := hid f1
          clear c1 f1
          go_wp2_with (refine wpList_new rfl 37 rfl #[.int .i64 0, .int .i64 0, .int .i64 0, .int .i64 0, .int .i64 0, .int .i64 0, .int .i64 0, .int .i64 0, .int .i64 0, .int .i64 0, .int .i64 0, .int .i64 0, .bool false, .int .i64 0, .int .i64 0, .int .i64 0, .int .i64 0, .slice none 0 0] zeroData ?_)
          intro x w2 hx B2 f2 z2
          have HX := hid hx
          have HF2 := hid (HF1.out.trans f2)
          clear hx f2 z2
          go_wp2_with (refine wpList_store_part rfl 37 _ _ rfl aggData x 0 rfl B2 (.agg #[.int .i64 1, .int .i64 1, .int .i64 (d + 1), .int .i64 1, .int .i64 0, .int .i64 kd, .int .i64 1, .int .i64 1, .int .i64 0, .int .i64 0, .int .i64 1, .int .i64 1, .bool true, .int .i64 0, .int .i64 0, .int .i64 0, .int .i64 0, .slice none 0 0]) rfl rfl (one_dat (d + 1) kd true) (by decide) #[.int .i64 1, .int .i64 1, .int .i64 (d + 1), .int .i64 1, .int .i64 0, .int .i64 kd, .int .i64 1, .int .i64 1, .int .i64 0, .int .i64 0, .int .i64 1, .int .i64 1, .bool true, .int .i64 0, .int .i64 0, .int .i64 0, .int .i64 0, .slice none 0 0] rfl ?_)
          intro w3 B3 f3 z3
          have hxw : wr.heap.size ≤ x := by have := HX.out; have := HF1.out.size; omega
          have HF3 := hid (HF2.out.into f3 hxw)
          clear B2 f3 z3
          go_wp2_with (first | (refine wpList_load_part rfl 35 _ rfl aggMsg x 5 rfl B3 #[.int .i64 kd, .int .i64 1, .int .i64 1, .int .i64 0, .int .i64 0, .int .i64 1, .int .i64 1, .bool true, .int .i64 0, .int .i64 0, .int .i64 0, .int .i64 0, .slice none 0 0] rfl rfl ?_) | (refine wpList_new rfl 35 rfl #[.int .i64 0, .int .i64 0, .int .i64 0, .int .i64 0, .int .i64 0, .int .i64 0, .int .i64 0, .bool false, .int .i64 0, .int .i64 0, .int .i64 0, .int .i64 0, .slice none 0 0] zeroMsg ?_))
          intro y w4 hy B4 f4 z4
          have HY := hid hy
          have HF4 := hid (HF3.out.trans f4)
          have BX4 := B3.keep f4 (fun h => h)
          have hxy : ¬ x = y := by have := B3.lt; omega
          clear hy f4 z4 B3
          go_wp2_with (refine wpList_store_part rfl 35 _ _ rfl aggMsg y 0 rfl B4 (.agg #[.int .i64 kd, .int .i64 1, .int .i64 1, .int .i64 0, .int .i64 0, .int .i64 1, .int .i64 1, .bool true, .int .i64 0, .int .i64 0, .int .i64 0, .int .i64 0, .slice none 0 0]) rfl rfl (one_msg kd true) (by decide) #[.int .i64 kd, .int .i64 1, .int .i64 1, .int .i64 0, .int .i64 0, .int .i64 1, .int .i64 1, .bool true, .int .i64 0, .int .i64 0, .int .i64 0, .int .i64 0, .slice none 0 0] rfl ?_)
          intro w5 B5 f5 z5
          have hyw : wr.heap.size ≤ y := by have := HY.out; have := HF3.out.size; omega
          have HF5 := hid (HF4.out.into f5 hyw)
          have BX5 := BX4.keep f5 hxy
          clear f5 z5 BX4 B4
          have m7 : w5.cell? ⟨y, 7, none⟩ = some (.bool true) := B5.cell 7 rfl
          have m0 : w5.cell? ⟨y, 0, none⟩ = some (.int .i64 kd) := B5.cell 0 rfl
          have x2 : w5.cell? ⟨x, 2, none⟩ = some (.int .i64 (d + 1)) := BX5.cell 2 rfl
          by_cases h5 : kd = 5
          · subst h5
            have e1 : w5.cell? ⟨o, 1, none⟩ = some (.int .i64 d) := Blk.cell (HOD.out.keep HF5.out (fun h => h)) 1 rfl
            have y1 : w5.frozen? ⟨o, 1, none⟩ = false := Blk.free (HOD.out.keep HF5.out (fun h => h)) 1
            clear B5 BX5
            go_wp2_with fail
            have f9 : Fr (· = o) w5 (w5.setCell ⟨o, 1, none⟩ (.int .i64 (d + 1))) := (Fr.refl _ w5).set1 1 _
            have hoz := HAB.out
            go_roundg (999 - d).toNat
            case measure => have := HK.out; omega
            case rel =>
              refine ⟨d + 1, acc, by omega, by omega, by omega, by omega, row_keep (row_keep HROW.out HF5.out (fun _ _ h => h)) f9 (fun k hk e => ?_), (HOD.out.keep HF5.out (fun h => h)).set' 1 _ rfl, (HWS.out.keep HF5.out).keepS f9 hgo.1 hgo.2 (fun k e => by omega), (HFR.out.trans (HF5.out.mono (fun _ _ h => h.elim))).trans f9, HAB.out, ?_, ?_⟩
              · subst e
                obtain ⟨cs, bl⟩ := row_type HROW.out hk
                exact absurd (bl.type HOD.out) (by decide)
              · rw [← HOUT.out, HE.out]; simp
              · rw [← HDN.out, HE.out]
          · skip
            obtain ⟨i0, i1, i2, i3, i4⟩ := dataI
            go_wp2_with (first | (refine wpList_load_part rfl 37 _ rfl aggData x 0 rfl BX5 #[.int .i64 1, .int .i64 1, .int .i64 (d + 1), .int .i64 1, .int .i64 0, .int .i64 kd, .int .i64 1, .int .i64 1, .int .i64 0, .int .i64 0, .int .i64 1, .int .i64 1, .bool true, .int .i64 0, .int .i64 0, .int .i64 0, .int .i64 0, .slice none 0 0] rfl rfl ?_) | (refine wpList_build_one rfl 44 _ rfl Try.underlying44 aggData (by decide) (by decide) zeroData #[.int .i64 1, .int .i64 1, .int .i64 (d + 1), .int .i64 1, .int .i64 0, .int .i64 kd, .int .i64 1, .int .i64 1, .int .i64 0, .int .i64 0, .int .i64 1, .int .i64 1, .bool true, .int .i64 0, .int .i64 0, .int .i64 0, .int .i64 0, .slice none 0 0] rfl rfl ?_))
            intro z w6 hz B6 f6 z6
            have HF6 := hid (HF5.out.trans f6)
            have HROW6 := hid (row_keep HROW.out HF6.out (fun _ _ h => h))
            clear hz f6 z6 B5 BX5
            have hlen : acc.length ≤ 1000 := by omega
            go_wp2_with (refine wpList_append_row rfl _ _ 44 rfl 37 i0 _ 18 160 Try.underlying44 i1 i2 i3 i4 rfl (by decide) (.slice ao acc.length cap) acc.length (flatD acc) rfl HROW6.out ⟨z, 0, none⟩ 1 1 (datc (d + 1, (kd, true))) rfl rfl (blk_src B6 _ rfl) (datc_one _) (by unfold maxLen; omega) (by omega) ?_)
            intro v' w7 hr7 f7 g7 _
            obtain ⟨ao', cap', rfl⟩ := rowN_shape hr7
            have HR7 := hid hr7
            have HG7 := hid g7
            have HFS7 := hid f7
            have hod7 := (HOD.out.keep HF6.out (fun h => h)).keep_row HROW6.out (by decide) f7
            have HOD7 := hid hod7
            have HW7 := hid ((HWS.out.keep HF6.out).row HROW6.out (fun k hk => Nat.le_trans HSZ.out (HAB.out k hk)) f7)
            have e1 : w7.cell? ⟨o, 1, none⟩ = some (.int .i64 d) := Blk.cell hod7 1 rfl
            have y1 : w7.frozen? ⟨o, 1, none⟩ = false := Blk.free hod7 1
            clear hr7 f7 g7 hod7 B6 i0 i1 i2 i3 i4
            go_wp2_with fail
            have f9 : Fr (· = o) w7 (w7.setCell ⟨o, 1, none⟩ (.int .i64 (d + 1))) := (Fr.refl _ w7).set1 1 _
            go_roundg (999 - d).toNat
            case measure => have := HK.out; omega
            case rel =>
              refine ⟨d + 1, acc ++ [(d + 1, (kd, true))], by omega, by omega, by omega, by simp; omega, ?_, HOD7.out.set' 1 _ rfl, HW7.out.keepS f9 hgo.1 hgo.2 (fun k e => by omega), ?_, fun k hk => ?_, ?_, ?_⟩
              · rw [List.length_append, flatD_append]
                refine row_keep (by simpa [flatD] using HR7.out) f9 (fun k hk e => ?_)
                subst e
                obtain ⟨cs, bl⟩ := row_type HR7.out hk
                exact absurd (bl.type HOD7.out) (by decide)
              · refine ((HFR.out.trans (HF6.out.mono (fun _ _ h => h.elim))).step HFS7.out (fun k hk hm => ?_)).trans f9
                have := HAB.out k hm; omega
              · rcases HG7.out k hk with h | h
                · exact HAB.out k h
                · have := HF6.out.size; have := HFR.out.size; omega
              · rw [← HOUT.out, HE.out]; simp [h5]
              · rw [← HDN.out, HE.out]
end Go.Proofs.Ytclaggjlacinlaa
