/-
  FRAMES AND BYTES THAT COME IN (ch 11); THE WALK OF TwinBack. Conditions: none.
-/
import Derived.Test.YtalbncnhmofgaaaRows
import Derived.Test.YtalbncnhmofgaaaTwE
import Derived.Test.YtalbncnhmofgaaaFlat
import Derived.Lib.SmallJoins
import Derived.SizedLaws
namespace Go.Proofs.Ytalbncnhmofgaaa
open Go.RowKit Go.ChangeShapes Go.WideShapes Go.Deep

set_option linter.unusedSimpArgs false
set_option maxRecDepth 100000
section
variable {H : Type} {enc : TypeId × Value → H} {w : World} {base : Nat} {held : Bool}
theorem bytes_trod {fuel : Nat} {v : Value} {x : DataW H × List MemPlace}
    (h : DataW.trod enc Try.prog w base (fun _ => true) held fuel 22 [v] = some x) (hz : ∀ n ∈ x.1.weights Try.prog 22, n ≤ reachBytes) : ∃ bs, Vw .u8 w v bs ∧ AllB bs ∧ bs.length ≤ 140737488351232 := by
  rcases open_ints Try.underlying22 Try.underlying5 (by kernel_rfl) h with ⟨hcs, _⟩ | ⟨a, len, cap, zs, hcs, _, hl, hm, hzl, rfl, hcell, hwz⟩
  · simp at hcs; subst hcs
    exact ⟨[], Vw.nil _ _, AllB.nil, by simp⟩
  · simp at hcs; subst hcs
    have hz' : zs.length = cap := by simpa using hzl
    have hrow : IsRow .u8 w (some a) len cap zs := .inr ⟨_, rfl, hl, hm, hz', hcell, hwz⟩
    have hb := hz (((lits (H := H) .u8 (zs.take len)).length + (lits (H := H) .u8 (zs.drop len)).length) * Try.prog.bytesOf 5) (by simp [DataW.weights, Try.underlying22])
    rw [show Try.prog.bytesOf 5 = 1 from by kernel_rfl] at hb
    have hlen : (lits (H := H) .u8 (zs.take len)).length = len := by simp [lits]; omega
    refine ⟨zs.take len, Vw.of_is hrow, AllB.of_is hrow, ?_⟩
    have : (zs.take len).length = len := by simp; omega
    rw [this]
    have hr : reachBytes = 140737488351232 := rfl
    omega
theorem wEach_mem {P : Program} {ts : List TypeId} {ds : List (DataW H)} {j : Nat} {t : TypeId} {d : DataW H} (ht : ts[j]? = some t) (hd : ds[j]? = some d) {n : Nat} (hn : n ∈ d.weights P t) : n ∈ DataW.weightsEach P ts ds := DataW.weights_mem_each ht hd n hn
/-- Bytes that came in. -/
def InB (w : World) (v : Value) : Prop := ∃ bs, Vw .u8 w v bs ∧ AllB bs ∧ bs.length ≤ 140737488351232
theorem bytes_open {r : Reach} {b0 : Nat} {v : Value} {d : DataW H} {p : List MemPlace}
    (hok : Value.okWide Try.prog w r b0 22 v) (h : DataW.Trod enc Try.prog w base (fun _ => true) held 22 v d p) (hz : ∀ n ∈ d.weights Try.prog 22, n ≤ reachBytes) : InB w v := by
  obtain ⟨a0, len0, cap0, rfl⟩ := okWide_slice Try.underlying22 hok
  obtain ⟨fuel, hf⟩ := h
  exact bytes_trod hf hz
/-- A frame that came in. -/
def InF (w : World) (v : Value) : Prop := ∃ (a b c : Int) (u : Value), v = .agg #[.int .i64 a, .int .i64 b, .int .i64 c, u] ∧ InB w u
theorem fr_cells {fuel : Nat} {cs : List Value} {x : DataW H × List MemPlace} (hl : cs.length = 4)
    (h : DataW.trod enc Try.prog w base (fun _ => true) held fuel 24 cs = some x) (hz : ∀ n ∈ x.1.weights Try.prog 24, n ≤ reachBytes) : ∃ (a b c : Int) (u : Value), cs = [.int .i64 a, .int .i64 b, .int .i64 c, u] ∧ InB w u := by
  obtain ⟨y0, y1, y2, y3, n, rfl, _, t0, t1, t2, t3⟩ := Go.Joins.trod_struct4 Try.underlying24 h
  match cs, hl with
  | [c0, c1, c2, c3], _ =>
    have c1e : Try.prog.cellsOf 3 = 1 := by kernel_rfl
    have cse : Try.prog.cellsOf 22 = 1 := by kernel_rfl
    rw [c1e] at t0 t1 t2
    rw [cse] at t3
    simp only [List.drop_zero, List.drop_succ_cons, List.take_succ_cons, List.take_zero] at t0 t1 t2 t3
    obtain ⟨a, ha, _, wa⟩ := DataW.trod_int Try.underlying3 t0
    obtain ⟨b, hb, _, wb⟩ := DataW.trod_int Try.underlying3 t1
    obtain ⟨c, hc, _, wc⟩ := DataW.trod_int Try.underlying3 t2
    refine ⟨a, b, c, c3, ?_, bytes_trod t3 (fun k hk => hz k ?_)⟩
    · simp at ha hb hc
      simp [ha, hb, hc]
    · simp only [DataW.weights, Try.underlying24]
      exact wEach_mem (j := 3) rfl rfl hk
theorem cellsFr : Try.prog.cellsOf 24 = 4 := by kernel_rfl
theorem frame_open {r : Reach} {b0 : Nat} {v : Value} {d : DataW H} {p : List MemPlace}
    (hok : Value.okWide Try.prog w r b0 24 v) (h : DataW.Trod enc Try.prog w base (fun _ => true) held 24 v d p) (hz : ∀ n ∈ d.weights Try.prog 24, n ≤ reachBytes) : InF w v := by
  obtain ⟨cs, rfl, hs⟩ := okWide_struct Try.underlying24 hok
  rw [cellsFr] at hs
  obtain ⟨fuel, hf⟩ := h
  obtain ⟨a, b, c, u, hx, hu⟩ := fr_cells (by simpa [Value.cells] using hs) hf hz
  obtain ⟨l⟩ := cs
  simp [Value.cells] at hx
  subst hx
  exact ⟨a, b, c, u, rfl, hu⟩
end
theorem packR_byte {a b c : Int} {bs : List Int} (hb : AllB bs) : AllB (packR a b c bs).1 ∧ (packR a b c bs).1.length ≤ 552 := by
  unfold packR
  split
  · exact ⟨AllB.nil, by simp⟩
  · split
    · exact ⟨fz_byte (by assumption) (by omega) hb, fz_len (by omega)⟩
    · exact ⟨AllB.nil, by simp⟩
theorem packR_good {a b c : Int} {bs : List Int} (h : (packR a b c bs).2 = 0) : openF (packR a b c bs).1 = ⟨a, b, c, bs, 0⟩ := by
  unfold packR at *
  split at h
  · exact absurd h (by decide)
  · rename_i h1
    rw [if_neg h1]
    split at h
    · rename_i h2
      rw [if_pos h2]
      exact fz_open h2 (by omega)
    · exact absurd h (by decide)
theorem openF_byte {zs : List Int} (hb : AllB zs) : AllB (openF zs).bs := by
  by_cases h : (openF zs).er = 0
  · have h1 := pack_open hb h
    have h2 := (openF_ok h).2
    have h3 := (openF_ok h).1
    unfold packR at h1
    rw [if_neg (by omega), if_pos h3] at h1
    have h4 : sealed (fmB (openF zs).a (openF zs).b (openF zs).c (openF zs).bs) = zs := congrArg Prod.fst h1
    intro z hz
    refine hb z ?_
    rw [← h4]
    unfold sealed fmB
    simp [hz]
  · rw [openF_bad h]; exact AllB.nil
theorem sameF_self (a b c : Int) (bs : List Int) : sameF a b c bs a b c bs = true := by simp [sameF]
set_option maxHeartbeats 4000000 in
theorem back_any (a b c : Int) (u : Value) (bs : List Int) (v : Value) (zs : List Int) (w : World) (hu : Vw .u8 w u bs) (hbs : AllB bs) (hv : Vw .u8 w v zs) (hzs : AllB zs) (hl : zs.length ≤ 140737488351232) :
    Calls Try.prog 4 #[.agg #[.int .i64 a, .int .i64 b, .int .i64 c, u], v] w fun e w' => e = .returned (.bool true) ∧ Fr (fun _ => False) w w' := by
  have HP := hid (fun W (f : Fr (fun _ => False) w W) => pack_tw a b c u bs W (hu.keep0 f) hbs)
  have HO := hid (fun W (f : Fr (fun _ => False) w W) => open_tw v zs W (hv.keep0 f) hzs (by omega))
  have HPB := hid (packR_byte (a := a) (b := b) (c := c) hbs)
  have HPG := hid (packR_good (a := a) (b := b) (c := c) (bs := bs))
  have HOB := hid (openF_byte hzs)
  have HPO := hid (pack_open hzs)
  have HBAD := hid (openF_bad (zs := zs))
  have HU := hid hu
  have HV := hid hv
  have HBS := hid hbs
  have HZS := hid hzs
  have HW := hid (fun W => works_tw W)
  obtain ⟨ao, ac, rfl, _⟩ := id hu
  obtain ⟨bo, bc, rfl, _⟩ := id hv
  obtain ⟨nb, hnb⟩ : ∃ n, n = bs.length := ⟨_, rfl⟩
  obtain ⟨nz, hnz⟩ : ∃ n, n = zs.length := ⟨_, rfl⟩
  rw [← hnb] at HU HP ⊢
  rw [← hnz] at HV HO ⊢
  generalize packR a b c bs = P at *
  generalize openF zs = o at *
  obtain ⟨P1, P2⟩ := P
  obtain ⟨oa, ob, oc, obs, oer⟩ := o
  simp only at HPB HPG HOB HPO HBAD
  have HX := hid (Blk.new w #[.int .i64 a, .int .i64 b, .int .i64 c, .slice ao nb ac] 24)
  have HFX := hid ((Fr.refl (fun _ => False) w).alloc (.cells #[.int .i64 a, .int .i64 b, .int .i64 c, .slice ao nb ac] 24))
  clear hu hv hbs hzs hl hnb hnz
  go_enter Try.func4, Try.ntmps4
  go_wp2_with fail
  generalize (w.alloc (.cells #[.int .i64 a, .int .i64 b, .int .i64 c, .slice ao nb ac] 24)) = w0 at *
  obtain ⟨x, hx⟩ : ∃ x, x = w.heap.size := ⟨_, rfl⟩
  rw [← hx] at HX ⊢
  clear hx
  with_reducible refine (HW.out w0).mono ?_
  rintro e w1 ⟨rfl, f1⟩
  have HX1 := hid (HX.out.keep f1 (fun h => h))
  have HF1 := hid (HFX.out.trans f1)
  clear HX HFX f1
  have x0 := HX1.out.cell (i := 0) rfl
  have x1 := HX1.out.cell (i := 1) rfl
  have x2 := HX1.out.cell (i := 2) rfl
  have x3 := HX1.out.cell (i := 3) rfl
  go_wp2_with fail
  clear x0 x1 x2 x3
  with_reducible refine (HP.out _ HF1.out).mono ?_
  rintro e w2 ⟨v2, rfl, r2, f2, _⟩
  obtain ⟨a2, c2, rfl⟩ := row_shape r2
  have HV2 := hid (Vw.of_row r2)
  have HX2 := hid (HX1.out.keep f2 (fun h => h))
  have HF2 := hid (HF1.out.trans f2)
  simp only at HV2
  clear HX1 HF1 f2 r2 HP HW
  by_cases hp : P2 = 0
  · subst hp
    have HG := hid (HPG.out rfl)
    clear HPG
    obtain ⟨n2, hn2⟩ : ∃ n, n = P1.length := ⟨_, rfl⟩
    rw [← hn2] at HV2
    have HOP := hid (open_tw _ P1 w2 HV2.out HPB.out.1 (by have := HPB.out.2; omega))
    rw [HG.out] at HOP
    rw [← hn2]
    clear hn2
    go_wp2_with fail
    with_reducible refine HOP.out.mono ?_
    rintro e w3 ⟨v3, rfl, r3, f3, ha3⟩
    obtain ⟨n3, hn3⟩ : ∃ n, n = bs.length := ⟨_, rfl⟩
    simp only at r3
    rw [← hn3] at r3
    have HN3 := hid hn3
    clear hn3
    obtain ⟨a3, c3, rfl⟩ := row_shape r3
    have HR3 := hid r3
    have HF3 := hid (HF2.out.trans f3)
    have HX3 := hid (HX2.out.keep f3 (fun h => h))
    have HL3 := hid (row_live r3)
    clear r3 f3 HF2 HX2 HOP HV2 HG ha3
    go_wp2_with (refine wpList_new rfl 24 rfl #[.int .i64 0, .int .i64 0, .int .i64 0, .slice none 0 0] zeroFrame ?_)
    intro y w4 hy B4 f4 z4
    have HF4 := hid (HF3.out.trans f4)
    have HX4 := hid (HX3.out.keep f4 (fun h => h))
    have HR4 := hid (row_keep HR3.out f4 (fun _ _ h => h))
    have hxy : x ≠ y := by have := HX3.out.lt; omega
    have hyw : w.heap.size ≤ y := by have := HF3.out.size; omega
    have hya : ∀ k, k ∈ footOf (.slice a3 n3 c3) → ¬ k = y := fun k hk => by have := HL3.out k hk; omega
    clear hy f4 z4 HF3 HX3 HR3 HL3
    go_wp2_with (refine wpList_store_part rfl 24 _ _ rfl aggFrame y 0 rfl B4 (.agg #[.int .i64 a, .int .i64 b, .int .i64 c, .slice a3 n3 c3]) rfl rfl (one_fr a b c a3 n3 c3) (by decide) #[.int .i64 a, .int .i64 b, .int .i64 c, .slice a3 n3 c3] rfl ?_)
    intro w5 B5 f5 z5
    have HF5 := hid (HF4.out.intoNew f5 hyw)
    have HX5 := hid (HX4.out.keep f5 hxy)
    have HR5 := hid (row_keep HR4.out f5 hya)
    have HY5 := hid B5
    clear B5 f5 z5 B4 HF4 HX4 HR4 hya
    have x0 := HX5.out.cell (i := 0) rfl
    have x1 := HX5.out.cell (i := 1) rfl
    have x2 := HX5.out.cell (i := 2) rfl
    have x3 := HX5.out.cell (i := 3) rfl
    have y0 := HY5.out.cell (i := 0) rfl
    have y1 := HY5.out.cell (i := 1) rfl
    have y2 := HY5.out.cell (i := 2) rfl
    have y3 := HY5.out.cell (i := 3) rfl
    go_wp2_with fail
    clear x0 x1 x2 x3 y0 y1 y2 y3
    have HSM := hid (same_tw a b c (.slice ao nb ac) bs a b c (.slice a3 n3 c3) bs w5 (HU.out.keep0 HF5.out) (by have h := HR5.out; rw [HN3.out] at h ⊢; exact Vw.of_row h) HBS.out HBS.out)
    rw [sameF_self] at HSM
    with_reducible refine HSM.out.mono ?_
    rintro e w6 ⟨rfl, f6⟩
    have HF6 := hid (HF5.out.trans f6)
    clear HF5 HX5 HR5 HY5 f6 HSM HN3
    go_wp2_with fail
    with_reducible refine (HO.out _ HF6.out).mono ?_
    rintro e w7 ⟨v7, rfl, r7, f7, _⟩
    obtain ⟨n7, hn7⟩ : ∃ n, n = obs.length := ⟨_, rfl⟩
    simp only at r7
    rw [← hn7] at r7
    have HN7 := hid hn7
    clear hn7
    obtain ⟨a7, c7, rfl⟩ := row_shape r7
    have HF7 := hid (HF6.out.trans f7)
    have HR7 := hid r7
    clear f7 r7 HF6 HO
    have HL7 := hid (row_live HR7.out)
    go_wp2_with (refine wpList_new rfl 24 rfl #[.int .i64 0, .int .i64 0, .int .i64 0, .slice none 0 0] zeroFrame ?_)
    intro q w8 hq B8 f8 z8
    have HF8 := hid (HF7.out.trans f8)
    have HR8 := hid (row_keep HR7.out f8 (fun _ _ h => h))
    have hqw : w.heap.size ≤ q := by have := HF7.out.size; omega
    have hqa : ∀ k, k ∈ footOf (.slice a7 n7 c7) → ¬ k = q := fun k hk => by have := HL7.out k hk; omega
    clear hq f8 z8 HF7 HR7 HL7
    go_wp2_with (refine wpList_store_part rfl 24 _ _ rfl aggFrame q 0 rfl B8 (.agg #[.int .i64 oa, .int .i64 ob, .int .i64 oc, .slice a7 n7 c7]) rfl rfl (one_fr oa ob oc a7 n7 c7) (by decide) #[.int .i64 oa, .int .i64 ob, .int .i64 oc, .slice a7 n7 c7] rfl ?_)
    intro w9 B9 f9 z9
    have HF9 := hid (HF8.out.intoNew f9 hqw)
    have HR9 := hid (row_keep HR8.out f9 hqa)
    have HQ9 := hid B9
    have HV9 : Hid (Vw .u8 w9 (.slice a7 n7 c7) obs) := hid (by have h := HR9.out; rw [HN7.out] at h ⊢; exact Vw.of_row h)
    clear B9 f9 z9 B8 HF8 HR8 hqa
    have y0 := HQ9.out.cell (i := 0) rfl
    have y1 := HQ9.out.cell (i := 1) rfl
    have y2 := HQ9.out.cell (i := 2) rfl
    have y3 := HQ9.out.cell (i := 3) rfl
    by_cases ho : oer = 0
    · subst ho
      have HPO' := hid (HPO.out rfl)
      have HPK := hid (pack_tw oa ob oc _ obs w9 HV9.out HOB.out)
      rw [HPO'.out] at HPK
      clear HPO HBAD HN7
      go_wp2_with fail
      with_reducible refine HPK.out.mono ?_
      rintro e wa ⟨va, rfl, ra, fa, _⟩
      simp only at ra
      obtain ⟨aa, ca, rfl⟩ := row_shape ra
      have HFa := hid (HF9.out.trans fa)
      have HVa := hid (Vw.of_row ra)
      clear y0 y1 y2 y3 HQ9 HR9 HV9 ra fa HPK HPO' HF9
      have HEQ := hid (eqBytes_any _ _ zs zs wa HVa.out (HV.out.keep0 HFa.out) HZS.out HZS.out)
      rw [show decide (zs = zs) = true from decide_eq_true rfl] at HEQ
      go_wp2_with fail
      with_reducible refine HEQ.out.mono ?_
      rintro e wb ⟨rfl, fb⟩
      go_wp2_with fail
      go_ret
      exact ⟨rfl, HFa.out.trans fb⟩
    · have HZ := hid (HBAD.out ho)
      have hz := HZ.out
      simp only [zf, OF.mk.injEq] at hz
      obtain ⟨rfl, rfl, rfl, rfl, _⟩ := hz
      have do_ : (oer != 0) = true := by simp [ho]
      clear HZ HBAD HPO ho
      go_wp2_with fail
      have HSM := hid (same_tw 0 0 0 _ [] 0 0 0 (.slice none 0 0) [] w9 HV9.out (Vw.nil _ _) AllB.nil AllB.nil)
      rw [sameF_self] at HSM
      with_reducible refine HSM.out.mono ?_
      rintro e wa ⟨rfl, fa⟩
      go_wp2_with fail
      go_ret
      exact ⟨rfl, HF9.out.trans fa⟩
  · have dp : (P2 == 0) = false := by simp [hp]
    clear hp HPG HV2 HX2
    have HF6 := HF2
    generalize w2 = w6 at *
    clear HF2
    go_wp2_with fail
    with_reducible refine (HO.out _ HF6.out).mono ?_
    rintro e w7 ⟨v7, rfl, r7, f7, _⟩
    obtain ⟨n7, hn7⟩ : ∃ n, n = obs.length := ⟨_, rfl⟩
    simp only at r7
    rw [← hn7] at r7
    have HN7 := hid hn7
    clear hn7
    obtain ⟨a7, c7, rfl⟩ := row_shape r7
    have HF7 := hid (HF6.out.trans f7)
    have HR7 := hid r7
    clear f7 r7 HF6 HO
    have HL7 := hid (row_live HR7.out)
    go_wp2_with (refine wpList_new rfl 24 rfl #[.int .i64 0, .int .i64 0, .int .i64 0, .slice none 0 0] zeroFrame ?_)
    intro q w8 hq B8 f8 z8
    have HF8 := hid (HF7.out.trans f8)
    have HR8 := hid (row_keep HR7.out f8 (fun _ _ h => h))
    have hqw : w.heap.size ≤ q := by have := HF7.out.size; omega
    have hqa : ∀ k, k ∈ footOf (.slice a7 n7 c7) → ¬ k = q := fun k hk => by have := HL7.out k hk; omega
    clear hq f8 z8 HF7 HR7 HL7
    go_wp2_with (refine wpList_store_part rfl 24 _ _ rfl aggFrame q 0 rfl B8 (.agg #[.int .i64 oa, .int .i64 ob, .int .i64 oc, .slice a7 n7 c7]) rfl rfl (one_fr oa ob oc a7 n7 c7) (by decide) #[.int .i64 oa, .int .i64 ob, .int .i64 oc, .slice a7 n7 c7] rfl ?_)
    intro w9 B9 f9 z9
    have HF9 := hid (HF8.out.intoNew f9 hqw)
    have HR9 := hid (row_keep HR8.out f9 hqa)
    have HQ9 := hid B9
    have HV9 : Hid (Vw .u8 w9 (.slice a7 n7 c7) obs) := hid (by have h := HR9.out; rw [HN7.out] at h ⊢; exact Vw.of_row h)
    clear B9 f9 z9 B8 HF8 HR8 hqa
    have y0 := HQ9.out.cell (i := 0) rfl
    have y1 := HQ9.out.cell (i := 1) rfl
    have y2 := HQ9.out.cell (i := 2) rfl
    have y3 := HQ9.out.cell (i := 3) rfl
    by_cases ho : oer = 0
    · subst ho
      have HPO' := hid (HPO.out rfl)
      have HPK := hid (pack_tw oa ob oc _ obs w9 HV9.out HOB.out)
      rw [HPO'.out] at HPK
      clear HPO HBAD HN7
      go_wp2_with fail
      with_reducible refine HPK.out.mono ?_
      rintro e wa ⟨va, rfl, ra, fa, _⟩
      simp only at ra
      obtain ⟨aa, ca, rfl⟩ := row_shape ra
      have HFa := hid (HF9.out.trans fa)
      have HVa := hid (Vw.of_row ra)
      clear y0 y1 y2 y3 HQ9 HR9 HV9 ra fa HPK HPO' HF9
      have HEQ := hid (eqBytes_any _ _ zs zs wa HVa.out (HV.out.keep0 HFa.out) HZS.out HZS.out)
      rw [show decide (zs = zs) = true from decide_eq_true rfl] at HEQ
      go_wp2_with fail
      with_reducible refine HEQ.out.mono ?_
      rintro e wb ⟨rfl, fb⟩
      go_wp2_with fail
      go_ret
      exact ⟨rfl, HFa.out.trans fb⟩
    · have HZ := hid (HBAD.out ho)
      have hz := HZ.out
      simp only [zf, OF.mk.injEq] at hz
      obtain ⟨rfl, rfl, rfl, rfl, _⟩ := hz
      have do_ : (oer != 0) = true := by simp [ho]
      clear HZ HBAD HPO ho
      go_wp2_with fail
      have HSM := hid (same_tw 0 0 0 _ [] 0 0 0 (.slice none 0 0) [] w9 HV9.out (Vw.nil _ _) AllB.nil AllB.nil)
      rw [sameF_self] at HSM
      with_reducible refine HSM.out.mono ?_
      rintro e wa ⟨rfl, fa⟩
      go_wp2_with fail
      go_ret
      exact ⟨rfl, HF9.out.trans fa⟩
theorem back_walk (u v : Value) (w : World) (hu : InF w u) (hv : InB w v) : Calls Try.prog 4 #[u, v] w fun e w' => e = .returned (.bool true) ∧ Below w.heap.size w w' := by
  obtain ⟨a, b, c, x, rfl, bs, h1, h2, _⟩ := hu
  obtain ⟨zs, h4, h5, h6⟩ := hv
  exact (back_any a b c x bs v zs w h1 h2 h4 h5 h6).mono fun e w' q => ⟨q.1, q.2.below (Nat.le_refl _) (fun _ h => h.elim)⟩
end Go.Proofs.Ytalbncnhmofgaaa
