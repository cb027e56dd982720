/-
  FRAMES (ch 11): WHAT Open OF THE DOCUMENT ANSWERS. Conditions: at most 2^47 bytes.
-/
import Derived.Test.YtalbncnhmofgaaaTw3
import Derived.Test.YtalbncnhmofgaaaRefRO
import Derived.Deep.RegionHeld
import Derived.OrdersHeld
namespace Go.Proofs.Ytalbncnhmofgaaa
open Go.RowKit Go.ChangeShapes Go.WideShapes Go.Deep

set_option linter.unusedSimpArgs false
theorem tw_infoInt : (Try.prog.info? 3).map (fun i => (i.zero, i.size, i.bytes)) = some (some (.int .i64 0), 1, 8) := by kernel_rfl
theorem tw_intI : ∃ i, Try.prog.info? 3 = some i ∧ i.zero = some (.int .i64 0) ∧ i.size = 1 ∧ i.bytes = 8 := by
  have := tw_infoInt
  cases h : Try.prog.info? 3 with
  | none => rw [h] at this; simp at this
  | some i => rw [h] at this; simp at this; exact ⟨i, rfl, this.1, this.2.1, this.2.2⟩
theorem rleft_tw {g : Nat} {v : Value} {xs : List Int} (w : World) (h : RQ w g v xs) : Calls Try.prog 52 #[.pointer (some ⟨g, 0, none⟩)] w fun e w' => e = .returned (.int .i64 (xs.length : Int)) ∧ w = w' := by
  have hl := h.vw.len
  obtain ⟨ao, cap, rfl, _⟩ := id h.vw
  have c0 := h.blk.cell 0 rfl
  generalize xs.length = n at *
  clear h hl
  go_enter Try.func52, Try.ntmps52
  go_wp2_with fail
  go_ret
  exact ⟨rfl, rfl⟩
theorem roct_tw {g : Nat} {v : Value} {xs : List Int} (m : Int) (w : World) (h : RQ w g v xs) (hx : xs.length ≤ 140737488355328) : Calls Try.prog 51 #[.pointer (some ⟨g, 0, none⟩), .int .i64 m] w fun e w' => ∃ v1 v', e = .returned (.tuple #[v1, .int .i64 (octR xs m).2.1]) ∧ w'.ownsRow 0 5 1 v1 (octR xs m).1.length ((octR xs m).1.map (.int .u8)) ∧ Above w.heap.size (footOf v1) ∧ RQ w' g v' (xs.drop (octR xs m).2.2) ∧ Fr (· = g) w w' ∧ footOf v' = footOf v := by
  by_cases h0 : (octR xs m).2.1 = 0
  · have := roctets_good m w h hx h0
    rw [h0]; exact this
  · refine (roctets_bad m w h h0).mono ?_
    rintro e w1 ⟨rfl, h1, h2, rfl⟩
    exact ⟨_, v, rfl, by rw [h1]; exact World.ownsRow_nil _ _ _ _, fun k hk => by simp [footOf, Value.ownBlock] at hk, by rw [h2]; exact h, Fr.refl _ _, rfl⟩
theorem oct_most {xs : List Int} {m : Nat} (h : (octR xs m).2.1 = 0) : (octR xs m).1.length ≤ m := by
  by_cases h1 : (numR xs).2.2 ≠ 0
  · simp [octR, h1]
  · by_cases h2 : (m : Int) < (numR xs).1
    · simp [octR, h1, h2]
    · by_cases h3 : xs.length < (numR xs).2.1 + (numR xs).1
      · simp [octR, h1, h2, h3]
      · simp only [octR, if_neg h1, if_neg h2, if_neg h3, List.length_take, List.length_drop]
        omega
theorem vw_keepNe {k : IntKind} {S : Nat → Prop} {w w' : World} {v : Value} {zs : List Int} (h : Vw k w v zs) (f : Fr S w w') (hn : zs ≠ [] → ∀ b, b ∈ footOf v → ¬ S b) : Vw k w' v zs := by
  cases zs with
  | nil =>
    obtain ⟨ao, cap, rfl, h1, h2, h3, _⟩ := h
    exact ⟨ao, cap, rfl, h1, h2, h3, fun i hi => by simp at hi⟩
  | cons z r => exact h.keep f (hn (by simp))
/-- A reader, numbers and a frame of the call's own. -/
structure RO (w wr : World) (Z g y : Nat) (v : Value) (xs : List Int) (u : Value) (ns : List Int) : Prop where
  rs : RQ wr g v xs
  yb : Blk wr y #[.int .i64 0, .int .i64 0, .int .i64 0, .slice none 0 0] 24
  f0 : Fr (fun _ => False) w wr
  lg : w.heap.size ≤ g
  ly : w.heap.size ≤ y
  row : wr.ownsRow 0 3 1 u ns.length (ns.map (.int .i64))
  az : Above Z (footOf u)
  gz : g < Z
  yz : y < Z
  vz : xs ≠ [] → ∀ k, k ∈ footOf v → k < Z
  yv : ∀ k, k ∈ footOf v → y < k
  wz : w.heap.size ≤ Z
theorem RO.gy {w wr : World} {Z g y : Nat} {v u : Value} {xs ns : List Int} (h : RO w wr Z g y v xs u ns) : g ≠ y := fun e => by
  have b := h.rs.blk
  rw [e] at b
  exact absurd (b.type h.yb) (by decide)
theorem RO.gu {w wr : World} {Z g y : Nat} {v u : Value} {xs ns : List Int} (h : RO w wr Z g y v xs u ns) : ∀ k, k ∈ footOf u → ¬ k = g := fun k hk e => by have := h.az k hk; have := h.gz; omega
theorem RO.get {w wr w5 : World} {Z g y : Nat} {v v5 u : Value} {xs ys ns : List Int} (h : RO w wr Z g y v xs u ns) (hr : RQ w5 g v5 ys) (k : Fr (· = g) wr w5) (hf : footOf v5 = footOf v) (hd : xs = [] → ys = []) : RO w w5 Z g y v5 ys u ns :=
  ⟨hr, h.yb.keep k (fun e => h.gy e.symm), h.f0.step k (fun i hi e => by have := h.lg; omega), h.lg, h.ly, row_keep h.row k h.gu, h.az, h.gz, h.yz, fun hn i hi => h.vz (fun e => hn (hd e)) i (by rw [← hf]; exact hi), fun i hi => h.yv i (by rw [← hf]; exact hi), h.wz⟩
theorem RO.keep {w wr w5 : World} {Z g y : Nat} {v u : Value} {xs ns : List Int} (h : RO w wr Z g y v xs u ns) (k : Fr (fun _ => False) wr w5) : RO w w5 Z g y v xs u ns :=
  ⟨h.rs.keep k, h.yb.keep k (fun h => h), h.f0.trans k, h.lg, h.ly, row_keep h.row k (fun _ _ h => h), h.az, h.gz, h.yz, h.vz, h.yv, h.wz⟩
theorem RO.push {w wr w5 : World} {Z g y : Nat} {v u u5 : Value} {xs ns : List Int} {V : Int} (h : RO w wr Z g y v xs u ns) (hr : w5.ownsRow 0 3 1 u5 (ns.length + 1) (ns.map (.int .i64) ++ [.int .i64 V])) (k : Fr (· ∈ footOf u) wr w5) (gr : Grows wr (footOf u) (footOf u5)) (hz : Z ≤ wr.heap.size) : RO w w5 Z g y v xs u5 (ns ++ [V]) := by
  have hg : g ∉ footOf u := fun hk => h.gu g hk rfl
  have hy : y ∉ footOf u := fun hk => by have := h.az y hk; have := h.yz; omega
  have hv : xs ≠ [] → ∀ b, b ∈ footOf v → b ∉ footOf u := fun hn b hb hk => by have := h.az b hk; have := h.vz hn b hb; omega
  refine ⟨⟨h.rs.blk.keep k hg, vw_keepNe h.rs.vw k hv, h.rs.ab, h.rs.ne⟩, h.yb.keep k hy, h.f0.step k (fun i hi hk => by have := h.az i hk; have := h.wz; omega), h.lg, h.ly, by simpa using hr, fun b hb => ?_, h.gz, h.yz, h.vz, h.yv, h.wz⟩
  rcases gr b hb with h1 | h1
  · exact h.az b h1
  · omega

set_option maxRecDepth 100000 in
set_option maxHeartbeats 4000000 in
theorem ropenf_tw (v : Value) (zs : List Int) (w : World) (hv : Vw .u8 w v zs) (hb : AllB zs) (hl : zs.length ≤ 140737488355328) : Calls Try.prog 16 #[v] w (IsOpenF w (openF zs)) := by
  obtain ⟨i0, i1, i2, i3, i4⟩ := tw_intI
  have HO := hid (fun W (f : Fr (fun _ => False) w W) => ropen_any v zs W (hv.keep0 f) hb hl)
  have HBY : Hid (AllB (openR zs).1 ∧ (openR zs).1.length ≤ 140737488355328) := hid (by
    rcases openR_back zs with ⟨k, _, h⟩ | ⟨d, h, _, h3⟩
    · rw [h]; exact ⟨AllB.nil, by simp⟩
    · rw [h, h3]; exact ⟨hb.take _, by simp; omega⟩)
  obtain ⟨ao, cap, rfl, _⟩ := id hv
  have HOF : Hid (openF zs = if (openR zs).2 ≠ 0 then zf (openR zs).2 else op0 (openR zs).1) := hid rfl
  generalize openF zs = oF at *
  generalize hin : (openR zs).1 = inb at *
  generalize zs.length = n0 at *
  have HOO : Hid (∀ W, Fr (fun _ => False) w W → Calls Try.prog 48 #[.slice ao n0 cap] W fun e w' => ∃ v', e = .returned (.tuple #[v', .int .i64 (openR zs).2]) ∧ w'.ownsRow 0 5 1 v' inb.length (inb.map (.int .u8)) ∧ Fr (fun _ => False) W w' ∧ Above W.heap.size (footOf v')) := hid (fun W f => by
    have := HO.out W f
    unfold IsOpen at this
    rw [hin] at this
    exact this)
  generalize (openR zs).2 = eo at *
  clear hin HO hv hb hl
  go_enter Try.func16, Try.ntmps16
  go_wp2_with (refine wpList_new rfl 24 rfl #[.int .i64 0, .int .i64 0, .int .i64 0, .slice none 0 0] zeroFrame ?_)
  intro y w1 hy B1 f1 z1
  have hyw : w.heap.size ≤ y := by omega
  clear hy z1
  go_wp2_with fail
  with_reducible refine (HOO.out w1 f1).mono ?_
  rintro e w2 ⟨vi, rfl, hri, f2, hai⟩
  obtain ⟨ai, ci, rfl⟩ := row_shape hri
  have HRI := hid hri
  have HF2 := hid (f1.trans f2)
  have HY2 := hid (B1.keep f2 (fun h => h))
  clear f1 f2 hri hai B1 HOO
  by_cases he0 : eo = 0
  · subst he0
    have HO0 : Hid (oF = op0 inb) := hid (by rw [HOF.out, if_neg (by simp)])
    clear HOF
    obtain ⟨ni, hni⟩ : ∃ ni, ni = inb.length := ⟨_, rfl⟩
    have HNI := hid hni
    rw [← hni] at HRI ⊢
    clear hni
    go_wp2_with fail
    with_reducible refine (rrnew_any (.slice ai ni ci) inb w2 (Vw.of_row HRI.out) HBY.out.1 HBY.out.2).mono ?_
    rintro e w4 ⟨g, v4, rfl, hR4, f4, hg4, ha4⟩
    have HP4 : Hid (RO w w4 w4.heap.size g y v4 inb (.slice none 0 0) []) := hid ⟨hR4, HY2.out.keep f4 (fun h => h), HF2.out.trans f4, Nat.le_trans HF2.out.size hg4, hyw, World.ownsRow_nil _ _ _ _, fun k hk => by simp [footOf, Value.ownBlock] at hk, hR4.blk.lt, (HY2.out.keep f4 (fun h => h)).lt, fun hn k hk => hR4.vw.live hn k hk, fun k hk => by have h1 := ha4 k hk; have h2 := HY2.out.lt; omega, (HF2.out.trans f4).size⟩
    obtain ⟨Z, hZ⟩ : ∃ Z, Z = w4.heap.size := ⟨_, rfl⟩
    have HZ4 : Hid (Z ≤ w4.heap.size) := hid (Nat.le_of_eq hZ)
    rw [← hZ] at HP4
    clear hR4 f4 hg4 ha4 HY2 HF2 HRI hyw hZ
    go_wp2_with fail
    go_loopw [7, 8] (fun u i wr => ∃ (k : Nat) (v : Value) (xs : List Int) (ns : List Int) (a b c : Int), k ≤ 3 ∧ i = .int .i64 k ∧ RO w wr Z g y v xs u ns ∧ Z ≤ wr.heap.size ∧ ns = (if k = 0 then [] else if k = 1 then [a] else if k = 2 then [a, b] else [a, b, c]) ∧ op0 inb = (if k = 0 then op0 xs else if k = 1 then op1 a xs else if k = 2 then op2 a b xs else op3 a b c xs) ∧ xs.length ≤ 140737488355328) (fun _ i _ => 3 - (intOf i).toNat)
    case atStart => exact ⟨0, v4, inb, [], 0, 0, 0, by omega, rfl, HP4.out, HZ4.out, rfl, rfl, HBY.out.2⟩
    case round =>
      obtain ⟨k, v, xs, ns, a, b, c, hk, rfl, hP, hZw, hns, hop, hxl⟩ := hrel
      have HP := hid hP
      have HOP := hid hop
      have HXL := hid hxl
      have HZW := hid hZw
      have HG := hid (rget_any wr HP.out.rs)
      have HNZ := hid (@numR_z xs)
      have hk4 : k = 0 ∨ k = 1 ∨ k = 2 ∨ k = 3 := by omega
      clear HP4 hk hP hop hxl hZw
      rcases hk4 with rfl | rfl | rfl | rfl
      · have HOK : Hid (op0 inb = if (numR xs).2.2 ≠ 0 then zf (numR xs).2.2 else op1 ((numR xs).1 : Int) (xs.drop (numR xs).2.1)) := hid HOP.out
        have HRL : Hid ((xs.drop (numR xs).2.1).length ≤ 140737488355328) := hid (by have := HXL.out; rw [List.length_drop]; omega)
        have hn : ns = [] := hns
        subst hn
        clear HOP HXL hns
        have HDR : Hid (xs = [] → xs.drop (numR xs).2.1 = []) := hid (fun h => by rw [h]; simp)
        generalize (numR xs).1 = V at *
        generalize xs.drop (numR xs).2.1 = rest at *
        generalize (numR xs).2.2 = er at *
        obtain ⟨au, cu, rfl⟩ := row_shape HP.out.row
        go_wp2_with fail
        with_reducible refine HG.out.mono ?_
        rintro e w6 ⟨v6, rfl, hR6, f6, hft⟩
        have HP6 := hid (HP.out.get hR6 f6 hft HDR.out)
        have HZ6 := hid (Nat.le_trans HZW.out f6.size)
        clear hR6 f6 hft HG HP HZW
        by_cases he : er = 0
        · subst he
          have HE4 := HOK.out
          rw [if_neg (by simp)] at HE4
          have HE5 := hid HE4
          clear HOK HE4
          go_wp2_with (at_builtin; refine wpList_append_row rfl _ _ 36 rfl 3 i0 (.int .i64 0) 1 8 Try.underlying36 i1 i2 i3 i4 rfl (by decide) _ 0 ([]) rfl (HP6.out.row.alloc _) ⟨w6.heap.size, 0, none⟩ 1 1 [.int .i64 (V : Int)] rfl rfl (one_new _ _ _) (one_int _ _) (by decide) (by decide) ?_)
          intro u7 w7 hown hfr hgr _
          have HP7 := hid ((HP6.out.keep ((Fr.refl (fun _ => False) w6).alloc (.cells #[.int .i64 (V : Int)] 3))).push (V := (V : Int)) hown hfr hgr (by rw [World.size_alloc]; have := HZ6.out; omega))
          have HZ7 := hid (Nat.le_trans HZ6.out (Nat.le_trans (by rw [World.size_alloc]; omega) hfr.size))
          clear hown hfr hgr HP6 HZ6
          go_wp2_with fail
          go_roundw
          case rel => exact ⟨1, v6, rest, _, (V : Int), b, c, by omega, rfl, HP7.out, HZ7.out, rfl, HE5.out, HRL.out⟩
          case measure => simp [intOf]
        · have hne : (er != 0) = true := by simp [he]
          have HE4 := HOK.out
          rw [if_pos he] at HE4
          have HE5 := hid HE4
          have HYX := HP6.out.yb
          clear HOK HE4 he
          go_wp2_with (refine wpList_store_part rfl 24 _ _ rfl aggFrame y 0 rfl HYX (.agg #[.int .i64 0, .int .i64 0, .int .i64 0, .slice none 0 0]) rfl rfl (one_fr 0 0 0 none 0 0) (by decide) #[.int .i64 0, .int .i64 0, .int .i64 0, .slice none 0 0] rfl ?_)
          intro w9 B9 f9 z9
          have HF9 := hid (HP6.out.f0.into f9 HP6.out.ly)
          go_wp2_with fail
          exact bodyPost_ret (v := .tuple #[.agg #[.int .i64 0, .int .i64 0, .int .i64 0, .slice none 0 0], .int .i64 er]) (results_cell_slot rfl _ aggFrame rfl B9 rfl _ rfl) rfl (by rw [HO0.out, HE5.out]; exact isOpenF_zero HF9.out)
      · have HOK : Hid (op0 inb = if (numR xs).2.2 ≠ 0 then zf (numR xs).2.2 else op2 a ((numR xs).1 : Int) (xs.drop (numR xs).2.1)) := hid HOP.out
        have HRL : Hid ((xs.drop (numR xs).2.1).length ≤ 140737488355328) := hid (by have := HXL.out; rw [List.length_drop]; omega)
        have hn : ns = [a] := hns
        subst hn
        clear HOP HXL hns
        have HDR : Hid (xs = [] → xs.drop (numR xs).2.1 = []) := hid (fun h => by rw [h]; simp)
        generalize (numR xs).1 = V at *
        generalize xs.drop (numR xs).2.1 = rest at *
        generalize (numR xs).2.2 = er at *
        obtain ⟨au, cu, rfl⟩ := row_shape HP.out.row
        go_wp2_with fail
        with_reducible refine HG.out.mono ?_
        rintro e w6 ⟨v6, rfl, hR6, f6, hft⟩
        have HP6 := hid (HP.out.get hR6 f6 hft HDR.out)
        have HZ6 := hid (Nat.le_trans HZW.out f6.size)
        clear hR6 f6 hft HG HP HZW
        by_cases he : er = 0
        · subst he
          have HE4 := HOK.out
          rw [if_neg (by simp)] at HE4
          have HE5 := hid HE4
          clear HOK HE4
          go_wp2_with (at_builtin; refine wpList_append_row rfl _ _ 36 rfl 3 i0 (.int .i64 0) 1 8 Try.underlying36 i1 i2 i3 i4 rfl (by decide) _ 1 ([.int .i64 a]) rfl (HP6.out.row.alloc _) ⟨w6.heap.size, 0, none⟩ 1 1 [.int .i64 (V : Int)] rfl rfl (one_new _ _ _) (one_int _ _) (by decide) (by decide) ?_)
          intro u7 w7 hown hfr hgr _
          have HP7 := hid ((HP6.out.keep ((Fr.refl (fun _ => False) w6).alloc (.cells #[.int .i64 (V : Int)] 3))).push (V := (V : Int)) hown hfr hgr (by rw [World.size_alloc]; have := HZ6.out; omega))
          have HZ7 := hid (Nat.le_trans HZ6.out (Nat.le_trans (by rw [World.size_alloc]; omega) hfr.size))
          clear hown hfr hgr HP6 HZ6
          go_wp2_with fail
          go_roundw
          case rel => exact ⟨2, v6, rest, _, a, (V : Int), c, by omega, rfl, HP7.out, HZ7.out, rfl, HE5.out, HRL.out⟩
          case measure => simp [intOf]
        · have hne : (er != 0) = true := by simp [he]
          have HE4 := HOK.out
          rw [if_pos he] at HE4
          have HE5 := hid HE4
          have HYX := HP6.out.yb
          clear HOK HE4 he
          go_wp2_with (refine wpList_store_part rfl 24 _ _ rfl aggFrame y 0 rfl HYX (.agg #[.int .i64 0, .int .i64 0, .int .i64 0, .slice none 0 0]) rfl rfl (one_fr 0 0 0 none 0 0) (by decide) #[.int .i64 0, .int .i64 0, .int .i64 0, .slice none 0 0] rfl ?_)
          intro w9 B9 f9 z9
          have HF9 := hid (HP6.out.f0.into f9 HP6.out.ly)
          go_wp2_with fail
          exact bodyPost_ret (v := .tuple #[.agg #[.int .i64 0, .int .i64 0, .int .i64 0, .slice none 0 0], .int .i64 er]) (results_cell_slot rfl _ aggFrame rfl B9 rfl _ rfl) rfl (by rw [HO0.out, HE5.out]; exact isOpenF_zero HF9.out)
      · have HOK : Hid (op0 inb = if (numR xs).2.2 ≠ 0 then zf (numR xs).2.2 else op3 a b ((numR xs).1 : Int) (xs.drop (numR xs).2.1)) := hid HOP.out
        have HRL : Hid ((xs.drop (numR xs).2.1).length ≤ 140737488355328) := hid (by have := HXL.out; rw [List.length_drop]; omega)
        have hn : ns = [a, b] := hns
        subst hn
        clear HOP HXL hns
        have HDR : Hid (xs = [] → xs.drop (numR xs).2.1 = []) := hid (fun h => by rw [h]; simp)
        generalize (numR xs).1 = V at *
        generalize xs.drop (numR xs).2.1 = rest at *
        generalize (numR xs).2.2 = er at *
        obtain ⟨au, cu, rfl⟩ := row_shape HP.out.row
        go_wp2_with fail
        with_reducible refine HG.out.mono ?_
        rintro e w6 ⟨v6, rfl, hR6, f6, hft⟩
        have HP6 := hid (HP.out.get hR6 f6 hft HDR.out)
        have HZ6 := hid (Nat.le_trans HZW.out f6.size)
        clear hR6 f6 hft HG HP HZW
        by_cases he : er = 0
        · subst he
          have HE4 := HOK.out
          rw [if_neg (by simp)] at HE4
          have HE5 := hid HE4
          clear HOK HE4
          go_wp2_with (at_builtin; refine wpList_append_row rfl _ _ 36 rfl 3 i0 (.int .i64 0) 1 8 Try.underlying36 i1 i2 i3 i4 rfl (by decide) _ 2 ([.int .i64 a, .int .i64 b]) rfl (HP6.out.row.alloc _) ⟨w6.heap.size, 0, none⟩ 1 1 [.int .i64 (V : Int)] rfl rfl (one_new _ _ _) (one_int _ _) (by decide) (by decide) ?_)
          intro u7 w7 hown hfr hgr _
          have HP7 := hid ((HP6.out.keep ((Fr.refl (fun _ => False) w6).alloc (.cells #[.int .i64 (V : Int)] 3))).push (V := (V : Int)) hown hfr hgr (by rw [World.size_alloc]; have := HZ6.out; omega))
          have HZ7 := hid (Nat.le_trans HZ6.out (Nat.le_trans (by rw [World.size_alloc]; omega) hfr.size))
          clear hown hfr hgr HP6 HZ6
          go_wp2_with fail
          go_roundw
          case rel => exact ⟨3, v6, rest, _, a, b, (V : Int), by omega, rfl, HP7.out, HZ7.out, rfl, HE5.out, HRL.out⟩
          case measure => simp [intOf]
        · have hne : (er != 0) = true := by simp [he]
          have HE4 := HOK.out
          rw [if_pos he] at HE4
          have HE5 := hid HE4
          have HYX := HP6.out.yb
          clear HOK HE4 he
          go_wp2_with (refine wpList_store_part rfl 24 _ _ rfl aggFrame y 0 rfl HYX (.agg #[.int .i64 0, .int .i64 0, .int .i64 0, .slice none 0 0]) rfl rfl (one_fr 0 0 0 none 0 0) (by decide) #[.int .i64 0, .int .i64 0, .int .i64 0, .slice none 0 0] rfl ?_)
          intro w9 B9 f9 z9
          have HF9 := hid (HP6.out.f0.into f9 HP6.out.ly)
          go_wp2_with fail
          exact bodyPost_ret (v := .tuple #[.agg #[.int .i64 0, .int .i64 0, .int .i64 0, .slice none 0 0], .int .i64 er]) (results_cell_slot rfl _ aggFrame rfl B9 rfl _ rfl) rfl (by rw [HO0.out, HE5.out]; exact isOpenF_zero HF9.out)
      · have HOC := hid (roct_tw 512 wr HP.out.rs HXL.out)
        have HO3 : Hid (op0 inb = op3 a b c xs) := hid HOP.out
        have hn : ns = [a, b, c] := hns
        subst hn
        have HMO := hid (@oct_most xs 512)
        obtain ⟨q, cu, rfl, _, hcu⟩ := row_some HP.out.row (by simp)
        clear HG HNZ HOP hns
        have HE3 : Hid (op3 a b c xs = (if (octR xs 512).2.1 ≠ 0 then zf (octR xs 512).2.1 else if 0 < (xs.drop (octR xs 512).2.2).length ∨ okF a b c = false then zf 4 else ⟨a, b, c, (octR xs 512).1, 0⟩)) := hid rfl
        generalize op3 a b c xs = o3 at *
        have HMO2 : Hid ((octR xs 512).2.1 = 0 → (octR xs 512).1.length ≤ 512) := HMO
        clear HMO
        have HDR : Hid (xs = [] → xs.drop (octR xs 512).2.2 = []) := hid (fun h => by rw [h]; simp)
        generalize (octR xs 512).2.1 = eo at *
        generalize (octR xs 512).1 = ob at *
        generalize xs.drop (octR xs 512).2.2 = rest at *
        go_wp2_with fail
        with_reducible refine HOC.out.mono ?_
        rintro e w6 ⟨v1, v6, rfl, hr6, ha6, hR6, f6, hft⟩
        have HP6 := hid (HP.out.get hR6 f6 hft HDR.out)
        have HR6 := hid hr6
        have HA6 : Hid (Above w.heap.size (footOf v1)) := hid (fun k hk => Nat.le_trans HP.out.f0.size (ha6 k hk))
        have HAF : Hid (∀ k, k ∈ footOf v1 → ¬ k = y) := hid (fun k hk => by
          have h1 := ha6 k hk; have h3 := HP.out.yb.lt; omega)
        obtain ⟨a1, c1, rfl⟩ := row_shape hr6
        obtain ⟨nb, hnb⟩ : ∃ nb, nb = ob.length := ⟨_, rfl⟩
        have HNB := hid hnb
        rw [← hnb] at HR6 HA6 HAF HMO2 ⊢
        have PS : Hid (∀ W, Fr (fun _ => False) w6 W → W.cell? ⟨q, 0, none⟩ = some (.int .i64 a) ∧ W.cell? ⟨q, 1, none⟩ = some (.int .i64 b) ∧ W.cell? ⟨q, 2, none⟩ = some (.int .i64 c)) := hid (fun W f => by
          obtain ⟨ao', cap', he, _, _, _, hc⟩ := row_form (row_keep HP6.out.row f (fun _ _ h => h))
          simp only [Value.slice.injEq] at he
          obtain ⟨rfl, _, _⟩ := he
          obtain ⟨g0, e0, _, c0, _⟩ := hc 0 (by simp)
          obtain ⟨g1, e1, _, c1, _⟩ := hc 1 (by simp)
          obtain ⟨g2, e2, _, c2, _⟩ := hc 2 (by simp)
          simp at e0 e1 e2
          subst e0; subst e1; subst e2
          exact ⟨c0, c1, c2⟩)
        clear hr6 ha6 hR6 f6 hft hnb HOC HXL HP
        by_cases he : eo = 0
        · subst he
          have HE4 := HE3.out
          rw [if_neg (by simp)] at HE4
          have HE5 := hid HE4
          have HB5 := hid (HMO2.out rfl)
          clear HE3 HE4 HMO2
          go_wp2_with fail
          refine wp_region_held_drew (S := fun W => W.cell? ⟨q, 0, none⟩ = some (.int .i64 a) ∧ W.cell? ⟨q, 1, none⟩ = some (.int .i64 b) ∧ W.cell? ⟨q, 2, none⟩ = some (.int .i64 c)) (by kernel_rfl) (PS.out _ (Fr.refl _ _).drew) (fun hHeld => ?_)
          refine wpAnyH_take (i := 0) (v := ?_) rfl (by kernel_rfl) (by kernel_rfl) (by kernel_rfl) (fun _ _ _ h => h) (Or.inl ⟨by rfl, ?_⟩) hHeld ?_
          rotate_left 1
          · (intro w hSw; (try dsimp only at hSw); go_simp <;> with_reducible rfl)
          try simp only [Act.put, List.setIfInBounds_toArray, List.set_cons_zero, List.set_cons_succ, List.getElem_toArray, List.getElem_cons_succ, List.getElem_cons_zero]
          refine wpAnyH_take (i := 1) (v := ?_) rfl (by kernel_rfl) (by kernel_rfl) (by kernel_rfl) (fun _ _ _ h => h) (Or.inl ⟨by rfl, ?_⟩) hHeld ?_
          rotate_left 1
          · (intro w hSw; (try dsimp only at hSw); go_simp <;> with_reducible rfl)
          try simp only [Act.put, List.setIfInBounds_toArray, List.set_cons_zero, List.set_cons_succ, List.getElem_toArray, List.getElem_cons_succ, List.getElem_cons_zero]
          refine wpAnyH_take (i := 2) (v := ?_) rfl (by kernel_rfl) (by kernel_rfl) (by kernel_rfl) (fun _ _ _ h => h) (Or.inl ⟨by rfl, ?_⟩) hHeld ?_
          rotate_left 1
          · (intro w hSw; (try dsimp only at hSw); go_simp <;> with_reducible rfl)
          try simp only [Act.put, List.setIfInBounds_toArray, List.set_cons_zero, List.set_cons_succ, List.getElem_toArray, List.getElem_cons_succ, List.getElem_cons_zero]
          refine wpAnyH_take (i := 3) (v := ?_) rfl (by kernel_rfl) (by kernel_rfl) (by kernel_rfl) (fun _ _ _ h => h) (Or.inl ⟨by rfl, ?_⟩) hHeld ?_
          rotate_left 1
          · (intro w hSw; (try dsimp only at hSw); go_simp <;> with_reducible rfl)
          try simp only [Act.put, List.setIfInBounds_toArray, List.set_cons_zero, List.set_cons_succ, List.getElem_toArray, List.getElem_cons_succ, List.getElem_cons_zero]
          refine wpAnyH_take (i := 4) (v := ?_) rfl (by kernel_rfl) (by kernel_rfl) (by kernel_rfl) (fun _ _ _ h => h) (Or.inl ⟨by rfl, ?_⟩) hHeld ?_
          rotate_left 1
          · (intro w hSw; (try dsimp only at hSw); go_simp <;> with_reducible rfl)
          try simp only [Act.put, List.setIfInBounds_toArray, List.set_cons_zero, List.set_cons_succ, List.getElem_toArray, List.getElem_cons_succ, List.getElem_cons_zero]
          refine wpAnyH_take (i := 5) (v := ?_) rfl (by kernel_rfl) (by kernel_rfl) (by kernel_rfl) (fun _ _ _ h => h) (Or.inl ⟨by rfl, ?_⟩) hHeld ?_
          rotate_left 1
          · (intro w hSw; (try dsimp only at hSw); go_simp <;> with_reducible rfl)
          try simp only [Act.put, List.setIfInBounds_toArray, List.set_cons_zero, List.set_cons_succ, List.getElem_toArray, List.getElem_cons_succ, List.getElem_cons_zero]
          refine wpAnyH_take (i := 6) (v := ?_) rfl (by kernel_rfl) (by kernel_rfl) (by kernel_rfl) (fun _ _ _ h => h) (Or.inl ⟨by rfl, ?_⟩) hHeld ?_
          rotate_left 1
          · (intro w hSw; (try dsimp only at hSw); go_simp <;> with_reducible rfl)
          try simp only [Act.put, List.setIfInBounds_toArray, List.set_cons_zero, List.set_cons_succ, List.getElem_toArray, List.getElem_cons_succ, List.getElem_cons_zero]
          refine wpAnyH_take (i := 7) (v := ?_) rfl (by kernel_rfl) (by kernel_rfl) (by kernel_rfl) (fun _ _ _ h => h) (Or.inl ⟨by rfl, ?_⟩) hHeld ?_
          rotate_left 1
          · (intro w hSw; (try dsimp only at hSw); go_simp <;> with_reducible rfl)
          try simp only [Act.put, List.setIfInBounds_toArray, List.set_cons_zero, List.set_cons_succ, List.getElem_toArray, List.getElem_cons_succ, List.getElem_cons_zero]
          refine wpAnyH_take (i := 8) (v := ?_) rfl (by kernel_rfl) (by kernel_rfl) (by kernel_rfl) (fun _ _ _ h => h) (Or.inl ⟨by rfl, ?_⟩) hHeld ?_
          rotate_left 1
          · (intro w hSw; (try dsimp only at hSw); go_simp <;> with_reducible rfl)
          try simp only [Act.put, List.setIfInBounds_toArray, List.set_cons_zero, List.set_cons_succ, List.getElem_toArray, List.getElem_cons_succ, List.getElem_cons_zero]
          refine wpAnyH_take (i := 9) (v := ?_) rfl (by kernel_rfl) (by kernel_rfl) (by kernel_rfl) (fun _ _ _ h => h) (Or.inl ⟨by rfl, ?_⟩) hHeld ?_
          rotate_left 1
          · (intro w hSw; (try dsimp only at hSw); go_simp <;> with_reducible rfl)
          try simp only [Act.put, List.setIfInBounds_toArray, List.set_cons_zero, List.set_cons_succ, List.getElem_toArray, List.getElem_cons_succ, List.getElem_cons_zero]
          refine wpAnyH_take (i := 10) (v := ?_) rfl (by kernel_rfl) (by kernel_rfl) (by kernel_rfl) (fun _ _ _ h => h) (Or.inl ⟨by rfl, ?_⟩) hHeld ?_
          rotate_left 1
          · (intro w hSw; (try dsimp only at hSw); go_simp <;> with_reducible rfl)
          try simp only [Act.put, List.setIfInBounds_toArray, List.set_cons_zero, List.set_cons_succ, List.getElem_toArray, List.getElem_cons_succ, List.getElem_cons_zero]
          refine wpAnyH_ready (rs := [11]) (by kernel_rfl) (by simp) ?_
          refine AllReadyH.cons rfl (fun K hK => ?_) AllReadyH.nil
          clear hHeld
          refine step_new (by rfl) 24 (by rfl) #[.int .i64 0, .int .i64 0, .int .i64 0, .slice none 0 0] zeroFrame ?_
          intro f w7 hf7 B7 f7 z7
          have hacc := (Fr.refl (fun _ => False) w6).drew.trans f7
          refine hK.out _ _ (PS.out _ hacc) (fun hHeld => ?_)
          clear hK K
          try simp only [Act.put, List.setIfInBounds_toArray, List.set_cons_zero, List.set_cons_succ, List.getElem_toArray, List.getElem_cons_succ, List.getElem_cons_zero]
          refine wpAnyH_ready (rs := [12]) (by kernel_rfl) (by simp) ?_
          refine AllReadyH.cons rfl (fun K hK => ?_) AllReadyH.nil
          clear hHeld
          refine step_store_part (by rfl) 24 (.tmp 13) (.tmp 61) (by rfl) aggFrame f 0 (by rfl) B7 (.agg #[.int .i64 a, .int .i64 b, .int .i64 c, .slice a1 nb c1]) (by rfl) rfl (one_fr a b c a1 nb c1) (by decide) #[.int .i64 a, .int .i64 b, .int .i64 c, .slice a1 nb c1] rfl ?_
          intro w8 B8 f8 z8
          have hacc8 := hacc.into f8 (by rw [hf7]; exact (Fr.refl (fun _ => False) w6).drew.size)
          refine hK.out _ _ (PS.out _ hacc8) (fun hHeld => ?_)
          clear hK K
          try simp only [Act.put, List.setIfInBounds_toArray, List.set_cons_zero, List.set_cons_succ, List.getElem_toArray, List.getElem_cons_succ, List.getElem_cons_zero]
          refine wpAnyH_done (by kernel_rfl) ?_ _
          clear hHeld
          have HP8 := hid (HP6.out.keep hacc8)
          have HR8 := hid (row_keep HR6.out hacc8 (fun _ _ h => h))
          have HB8 := hid B8
          have HYF : Hid (¬ y = f) := hid (fun e => by have := HP6.out.yb.lt; have := (Fr.refl (fun _ => False) w6).drew.size; omega)
          have HLF := hid (rleft_tw _ HP8.out.rs)
          have HFY := hid (fun W (fr : Fr (fun _ => False) w8 W) => (HP8.out.yb.keep fr (fun h => h)))
          clear hacc hacc8 B7 f7 z7 B8 f8 z8 hf7 PS HR6
          go_wp2_with fail
          with_reducible refine HLF.out.mono ?_
          rintro e w9 ⟨rfl, rfl⟩
          have HB7 := HB8.out
          have f0 := HB7.cell 0 rfl
          have f1 := HB7.cell 1 rfl
          have f2 := HB7.cell 2 rfl
          have f3 := HB7.cell 3 rfl
          clear HLF
          by_cases hlen : 0 < rest.length
          · have hlp : ((rest.length : Int) > 0) := by omega
            have HE6 : Hid (o3 = zf 4) := hid (by rw [HE5.out, if_pos (.inl hlen)])
            have HYX := HP8.out.yb
            clear f0 f1 f2 f3 HE5 HB7
            go_wp2_with (refine wpList_store_part rfl 24 _ _ rfl aggFrame y 0 rfl HYX (.agg #[.int .i64 0, .int .i64 0, .int .i64 0, .slice none 0 0]) rfl rfl (one_fr 0 0 0 none 0 0) (by decide) #[.int .i64 0, .int .i64 0, .int .i64 0, .slice none 0 0] rfl ?_)
            intro w9 B9 f9 z9
            have HF9 := hid (HP8.out.f0.into f9 HP8.out.ly)
            go_wp2_with fail
            exact bodyPost_ret (v := .tuple #[.agg #[.int .i64 0, .int .i64 0, .int .i64 0, .slice none 0 0], .int .i64 4]) (results_cell_slot rfl _ aggFrame rfl B9 rfl _ rfl) rfl (by rw [HO0.out, HO3.out, HE6.out]; exact isOpenF_zero HF9.out)
          · have hlz : rest.length = 0 := by omega
            rw [hlz]
            have HMY := hid (fun W => rmay_tw a b c a1 nb c1 W HB5.out)
            cases hok : okF a b c with
            | false =>
              have HE6 : Hid (o3 = zf 4) := hid (by rw [HE5.out, if_pos (.inr hok)])
              rw [hok] at HMY
              clear HE5 hok hlen hlz
              go_wp2_with (refine wpList_load_part_if rfl 24 _ rfl aggFrame f 0 rfl HB7 #[.int .i64 a, .int .i64 b, .int .i64 c, .slice a1 nb c1] rfl rfl ?_)
              with_reducible refine (HMY.out _).mono ?_
              rintro e w8 ⟨rfl, f8⟩
              have HP9 := hid (HP8.out.keep f8)
              have HYX := HP9.out.yb
              clear f0 f1 f2 f3 HB7 f8
              go_wp2_with (refine wpList_store_part rfl 24 _ _ rfl aggFrame y 0 rfl HYX (.agg #[.int .i64 0, .int .i64 0, .int .i64 0, .slice none 0 0]) rfl rfl (one_fr 0 0 0 none 0 0) (by decide) #[.int .i64 0, .int .i64 0, .int .i64 0, .slice none 0 0] rfl ?_)
              intro w9 B9 f9 z9
              have HF9 := hid (HP9.out.f0.into f9 HP9.out.ly)
              go_wp2_with fail
              exact bodyPost_ret (v := .tuple #[.agg #[.int .i64 0, .int .i64 0, .int .i64 0, .slice none 0 0], .int .i64 4]) (results_cell_slot rfl _ aggFrame rfl B9 rfl _ rfl) rfl (by rw [HO0.out, HO3.out, HE6.out]; exact isOpenF_zero HF9.out)
            | true =>
              have HE6 : Hid (o3 = ⟨a, b, c, ob, 0⟩) := hid (by rw [HE5.out, if_neg (by rw [hok]; simp; exact List.length_eq_zero_iff.1 hlz)])
              rw [hok] at HMY
              clear HE5 hok hlen hlz
              go_wp2_with (refine wpList_load_part_if rfl 24 _ rfl aggFrame f 0 rfl HB7 #[.int .i64 a, .int .i64 b, .int .i64 c, .slice a1 nb c1] rfl rfl ?_)
              with_reducible refine (HMY.out _).mono ?_
              rintro e w8 ⟨rfl, f8⟩
              have HP9 := hid (HP8.out.keep f8)
              have HR9' := hid (row_keep HR8.out f8 (fun _ _ h => h))
              have HYX := HP9.out.yb
              have HFX := HB8.out.keep f8 (fun h => h)
              clear f0 f1 f2 f3 HB7 f8
              go_wp2_with (first | (refine wpList_load_part rfl 24 _ rfl aggFrame f 0 rfl HFX #[.int .i64 a, .int .i64 b, .int .i64 c, .slice a1 nb c1] rfl rfl ?_) | (refine wpList_store_part rfl 24 _ _ rfl aggFrame y 0 rfl HYX (.agg #[.int .i64 a, .int .i64 b, .int .i64 c, .slice a1 nb c1]) rfl rfl (one_fr a b c a1 nb c1) (Nat.le_refl 4) #[.int .i64 a, .int .i64 b, .int .i64 c, .slice a1 nb c1] rfl ?_))
              intro w9 B9 f9 z9
              have HF9 := hid (HP9.out.f0.into f9 HP9.out.ly)
              have HR9 := hid (row_keep HR9'.out f9 HAF.out)
              go_wp2_with fail
              exact bodyPost_ret (v := .tuple #[.agg #[.int .i64 a, .int .i64 b, .int .i64 c, .slice a1 nb c1], .int .i64 0]) (results_cell_slot rfl _ aggFrame rfl B9 rfl _ rfl) rfl (by rw [HO0.out, HO3.out, HE6.out]; exact ⟨_, rfl, by have h1 := HR9.out; rw [HNB.out] at h1 ⊢; exact h1, HF9.out, HA6.out⟩)
        · have hne : (eo != 0) = true := by simp [he]
          have HE4 := HE3.out
          rw [if_pos he] at HE4
          have HE5 := hid HE4
          have HYX := HP6.out.yb
          clear HE3 HE4 he
          go_wp2_with (refine wpList_store_part rfl 24 _ _ rfl aggFrame y 0 rfl HYX (.agg #[.int .i64 0, .int .i64 0, .int .i64 0, .slice none 0 0]) rfl rfl (one_fr 0 0 0 none 0 0) (by decide) #[.int .i64 0, .int .i64 0, .int .i64 0, .slice none 0 0] rfl ?_)
          intro w9 B9 f9 z9
          have HF9 := hid (HP6.out.f0.into f9 HP6.out.ly)
          go_wp2_with fail
          exact bodyPost_ret (v := .tuple #[.agg #[.int .i64 0, .int .i64 0, .int .i64 0, .slice none 0 0], .int .i64 eo]) (results_cell_slot rfl _ aggFrame rfl B9 rfl _ rfl) rfl (by rw [HO0.out, HO3.out, HE5.out]; exact isOpenF_zero HF9.out)
  · have hne : (eo != 0) = true := by simp [he0]
    have HO0 : Hid (oF = zf eo) := hid (by rw [HOF.out, if_pos he0])
    clear HOF
    have HYX := HY2.out
    clear HRI HBY
    go_wp2_with (refine wpList_store_part rfl 24 _ _ rfl aggFrame y 0 rfl HYX (.agg #[.int .i64 0, .int .i64 0, .int .i64 0, .slice none 0 0]) rfl rfl (one_fr 0 0 0 none 0 0) (by decide) #[.int .i64 0, .int .i64 0, .int .i64 0, .slice none 0 0] rfl ?_)
    intro w9 B9 f9 z9
    have HF9 := hid (HF2.out.into f9 hyw)
    go_wp2_with fail
    exact bodyPost_ret (v := .tuple #[.agg #[.int .i64 0, .int .i64 0, .int .i64 0, .slice none 0 0], .int .i64 eo]) (results_cell_slot rfl _ aggFrame rfl B9 rfl _ rfl) rfl (by rw [HO0.out]; exact isOpenF_zero HF9.out)
end Go.Proofs.Ytalbncnhmofgaaa
