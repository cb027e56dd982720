/-
  FRAMES (ch 11): WHAT Open OF twin ANSWERS. Conditions: at most 2^47 bytes.
-/
import Derived.Test.YtalbncnhmofgaaaTw2
import Derived.Test.YtalbncnhmofgaaaWordO2
import Derived.Test.YtalbncnhmofgaaaSumB
namespace Go.Proofs.Ytalbncnhmofgaaa
open Go.RowKit

set_option linter.unusedSimpArgs false
structure OF where
  a : Int
  b : Int
  c : Int
  bs : List Int
  er : Int
def zf (e : Int) : OF := ⟨0, 0, 0, [], e⟩
def op3 (a b c : Int) (xs : List Int) : OF :=
  if (octR xs 512).2.1 ≠ 0 then zf (octR xs 512).2.1 else if 0 < (xs.drop (octR xs 512).2.2).length ∨ okF a b c = false then zf 4 else ⟨a, b, c, (octR xs 512).1, 0⟩
def op2 (a b : Int) (xs : List Int) : OF := if (numR xs).2.2 ≠ 0 then zf (numR xs).2.2 else op3 a b ((numR xs).1 : Int) (xs.drop (numR xs).2.1)
def op1 (a : Int) (xs : List Int) : OF := if (numR xs).2.2 ≠ 0 then zf (numR xs).2.2 else op2 a ((numR xs).1 : Int) (xs.drop (numR xs).2.1)
def op0 (xs : List Int) : OF := if (numR xs).2.2 ≠ 0 then zf (numR xs).2.2 else op1 ((numR xs).1 : Int) (xs.drop (numR xs).2.1)
/-- What Open answers. -/
def openF (zs : List Int) : OF := if (openR zs).2 ≠ 0 then zf (openR zs).2 else op0 (openR zs).1
def IsOpenF (w : World) (o : OF) (e : Ending) (w' : World) : Prop :=
  ∃ u, e = .returned (.tuple #[.agg #[.int .i64 o.a, .int .i64 o.b, .int .i64 o.c, u], .int .i64 o.er]) ∧ w'.ownsRow 0 5 1 u o.bs.length (o.bs.map (.int .u8)) ∧ Fr (fun _ => False) w w' ∧ Above w.heap.size (footOf u)
theorem isOpenF_zero {w w' : World} {k : Int} (f : Fr (fun _ => False) w w') : IsOpenF w (zf k) (.returned (.tuple #[.agg #[.int .i64 0, .int .i64 0, .int .i64 0, .slice none 0 0], .int .i64 k])) w' :=
  ⟨.slice none 0 0, rfl, World.ownsRow_nil _ _ _ _, f, fun b hb => by simp [footOf, Value.ownBlock] at hb⟩
theorem oct_tw {g : Nat} {v : Value} {xs : List Int} (m : Int) (w : World) (h : RS w g v xs) (hx : xs.length ≤ 140737488355328) : Calls Try.prog 46 #[.pointer (some ⟨g, 0, none⟩), .int .i64 m] w fun e w' => ∃ v1 v', e = .returned (.tuple #[v1, .int .i64 (octR xs m).2.1]) ∧ w'.ownsRow 0 5 1 v1 (octR xs m).1.length ((octR xs m).1.map (.int .u8)) ∧ Above w.heap.size (footOf v1) ∧ RS w' g v' (xs.drop (octR xs m).2.2) ∧ Fr (· = g) w w' ∧ footOf v' = footOf v := by
  by_cases h0 : (octR xs m).2.1 = 0
  · have := octets_good m w h hx h0
    rw [h0]; exact this
  · refine (octets_bad m w h h0).mono ?_
    rintro e w1 ⟨rfl, h1, h2, rfl⟩
    exact ⟨_, v, rfl, by rw [h1]; exact World.ownsRow_nil _ _ _ _, fun k hk => by simp [footOf, Value.ownBlock] at hk, by rw [h2]; exact h, Fr.refl _ _, rfl⟩
theorem one_fr (a b c : Int) (ao : Option Addr) (n cap : Nat) : ∀ u ∈ (Value.agg #[.int .i64 a, .int .i64 b, .int .i64 c, .slice ao n cap]).cells.toList, u.oneCell' = true := by
  intro u hu
  simp [Value.cells] at hu
  rcases hu with rfl | rfl | rfl | rfl <;> rfl
/-- A reader and two frames of the call's own. -/
structure OP (w wr : World) (g f y : Nat) (v : Value) (xs : List Int) (fr : Array Value) : Prop where
  rs : RS wr g v xs
  fb : Blk wr f fr 24
  yb : Blk wr y #[.int .i64 0, .int .i64 0, .int .i64 0, .slice none 0 0] 24
  f0 : Fr (fun _ => False) w wr
  lg : w.heap.size ≤ g
  lf : w.heap.size ≤ f
  ly : w.heap.size ≤ y
  fy : y ≠ f
  av : ∀ k, k ∈ footOf v → f < k ∧ y < k
theorem OP.gf {w wr : World} {g f y : Nat} {v : Value} {xs : List Int} {fr : Array Value} (h : OP w wr g f y v xs fr) : g ≠ f := fun e => by
  have b := h.rs.blk
  rw [e] at b
  exact absurd (b.type h.fb) (by decide)
theorem OP.gy {w wr : World} {g f y : Nat} {v : Value} {xs : List Int} {fr : Array Value} (h : OP w wr g f y v xs fr) : g ≠ y := fun e => by
  have b := h.rs.blk
  rw [e] at b
  exact absurd (b.type h.yb) (by decide)
theorem OP.get {w wr w5 : World} {g f y : Nat} {v v5 : Value} {xs ys : List Int} {fr : Array Value} (h : OP w wr g f y v xs fr) (hr : RS w5 g v5 ys) (k : Fr (· = g) wr w5) (hf : footOf v5 = footOf v) : OP w w5 g f y v5 ys fr :=
  ⟨hr, h.fb.keep k (fun e => h.gf e.symm), h.yb.keep k (fun e => h.gy e.symm), h.f0.step k (fun i hi e => by have := h.lg; omega), h.lg, h.lf, h.ly, h.fy, fun i hi => h.av i (by rw [← hf]; exact hi)⟩
theorem OP.keep {w wr w5 : World} {g f y : Nat} {v : Value} {xs : List Int} {fr : Array Value} (h : OP w wr g f y v xs fr) (k : Fr (fun _ => False) wr w5) : OP w w5 g f y v xs fr :=
  ⟨h.rs.keep k, h.fb.keep k (fun h => h), h.yb.keep k (fun h => h), h.f0.trans k, h.lg, h.lf, h.ly, h.fy, h.av⟩
theorem OP.put {w wr : World} {g f y : Nat} {v : Value} {xs : List Int} {fr : Array Value} (h : OP w wr g f y v xs fr) (i : Nat) (u : Value) {fr' : Array Value} (he : fr.setIfInBounds i u = fr') : OP w (wr.setCell ⟨f, i, none⟩ u) g f y v xs fr' := by
  have k : Fr (· = f) wr (wr.setCell ⟨f, i, none⟩ u) := (Fr.refl _ wr).set1 i u
  exact ⟨⟨h.rs.blk.keep k h.gf, h.rs.vw.keep k (fun b hb e => by have := (h.av b hb).1; omega), h.rs.ab, h.rs.ne⟩, h.fb.set' i u he, h.yb.keep k h.fy, h.f0.setNew (p := ⟨f, i, none⟩) h.lf u, h.lg, h.lf, h.ly, h.fy, h.av⟩
theorem numR_z {xs : List Int} : (numR xs).1 ≤ 9007199254740991 := by
  rcases numR_er xs with h | h | h
  · exact h.2.1
  · rw [(numR_none (by rw [h]; decide)).1]; exact Nat.zero_le _
  · rw [(numR_none (by rw [h]; decide)).1]; exact Nat.zero_le _

set_option maxRecDepth 100000 in
set_option maxHeartbeats 4000000 in
theorem open_tw (v : Value) (zs : List Int) (w : World) (hv : Vw .u8 w v zs) (hb : AllB zs) (hl : zs.length ≤ 140737488355328) : Calls Try.prog 15 #[v] w (IsOpenF w (openF zs)) := by
  have HO := hid (fun W (f : Fr (fun _ => False) w W) => open_any v zs W (hv.keep0 f) hb hl)
  have HBY : Hid (AllB (openR zs).1 ∧ (openR zs).1.length ≤ 140737488355328) := hid (by
    rcases openR_back zs with ⟨k, _, h⟩ | ⟨d, h, _, h3⟩
    · rw [h]; exact ⟨AllB.nil, by simp⟩
    · rw [h, h3]; exact ⟨hb.take _, by simp; omega⟩)
  obtain ⟨ao, cap, rfl, _⟩ := id hv
  have HOF : Hid (openF zs = if (openR zs).2 ≠ 0 then zf (openR zs).2 else op0 (openR zs).1) := hid rfl
  generalize openF zs = oF at *
  generalize hin : (openR zs).1 = inb at *
  generalize zs.length = n0 at *
  have HOO : Hid (∀ W, Fr (fun _ => False) w W → Calls Try.prog 43 #[.slice ao n0 cap] W fun e w' => ∃ v', e = .returned (.tuple #[v', .int .i64 (openR zs).2]) ∧ w'.ownsRow 0 5 1 v' inb.length (inb.map (.int .u8)) ∧ Fr (fun _ => False) W w' ∧ Above W.heap.size (footOf v')) := hid (fun W f => by
    have := HO.out W f
    unfold IsOpen at this
    rw [hin] at this
    exact this)
  generalize (openR zs).2 = eo at *
  clear hin HO hv hb hl
  go_enter Try.func15, Try.ntmps15
  go_wp2_with (refine wpList_new rfl 24 rfl #[.int .i64 0, .int .i64 0, .int .i64 0, .slice none 0 0] zeroFrame ?_)
  intro y w1 hy B1 f1 z1
  have hyw : w.heap.size ≤ y := by omega
  clear hy z1
  go_wp2_with fail
  with_reducible refine (HOO.out w1 f1).mono ?_
  rintro e w2 ⟨vi, rfl, hri, f2, hai⟩
  obtain ⟨ai, ci, rfl⟩ := row_shape hri
  have HRI := hid hri
  have HF2 := hid (f1.trans f2)
  have HY2 := hid (B1.keep f2 (fun h => h))
  clear f1 f2 hri hai B1 HOO
  by_cases he0 : eo = 0
  · subst he0
    have HO0 : Hid (oF = op0 inb) := hid (by rw [HOF.out, if_neg (by simp)])
    clear HOF
    obtain ⟨ni, hni⟩ : ∃ ni, ni = inb.length := ⟨_, rfl⟩
    have HNI := hid hni
    rw [← hni] at HRI ⊢
    clear hni
    go_wp2_with (refine wpList_new rfl 24 rfl #[.int .i64 0, .int .i64 0, .int .i64 0, .slice none 0 0] zeroFrame ?_)
    intro f w3 hfq B3 f3 z3
    have hfw : w.heap.size ≤ f := by have := HF2.out.size; omega
    have hyf : y ≠ f := by have := HY2.out.lt; omega
    have HY3 := hid (HY2.out.keep f3 (fun h => h))
    have HF3 := hid (HF2.out.trans f3)
    have HRI3 := hid (row_keep HRI.out f3 (fun _ _ h => h))
    have HB3 := hid B3
    clear hfq z3 f3 HY2 HF2 HRI B3
    go_wp2_with fail
    with_reducible refine (rnew_any (.slice ai ni ci) inb w3 (Vw.of_row HRI3.out) HBY.out.1 HBY.out.2).mono ?_
    rintro e w4 ⟨g, v4, rfl, hR4, f4, hg4, ha4⟩
    have HP4 : Hid (OP w w4 g f y v4 inb #[.int .i64 0, .int .i64 0, .int .i64 0, .slice none 0 0]) := hid ⟨hR4, HB3.out.keep f4 (fun h => h), HY3.out.keep f4 (fun h => h), HF3.out.trans f4, Nat.le_trans HF3.out.size hg4, hfw, hyw, hyf, fun k hk => by
      have h1 := ha4 k hk; have h2 := HB3.out.lt; have h3 := HY3.out.lt; exact ⟨by omega, by omega⟩⟩
    clear hR4 f4 hg4 ha4 HB3 HY3 HF3 HRI3 hfw hyw hyf
    go_wp2_with fail
    have HQ5 := hid (Blk.new w4 #[.pointer (some ⟨f, 0, none⟩), .pointer (some ⟨f, 1, none⟩), .pointer (some ⟨f, 2, none⟩)] 83)
    have HP5 := hid (HP4.out.keep ((Fr.refl (fun _ => False) w4).alloc (.cells #[.pointer (some ⟨f, 0, none⟩), .pointer (some ⟨f, 1, none⟩), .pointer (some ⟨f, 2, none⟩)] 83)))
    generalize w4.alloc (.cells #[.pointer (some ⟨f, 0, none⟩), .pointer (some ⟨f, 1, none⟩), .pointer (some ⟨f, 2, none⟩)] 83) = w5 at *
    generalize w4.heap.size = q at *
    clear HP4
    go_loopw [5, 26] (fun er i wr => ∃ (k : Nat) (v : Value) (xs : List Int) (a b c : Int), k ≤ 3 ∧ i = .int .i64 k ∧ er = .int .i64 0 ∧ OP w wr g f y v xs #[.int .i64 a, .int .i64 b, .int .i64 c, .slice none 0 0] ∧ op0 inb = (if k = 0 then op0 xs else if k = 1 then op1 a xs else if k = 2 then op2 a b xs else op3 a b c xs) ∧ xs.length ≤ 140737488355328 ∧ Blk wr q #[.pointer (some ⟨f, 0, none⟩), .pointer (some ⟨f, 1, none⟩), .pointer (some ⟨f, 2, none⟩)] 83) (fun _ i _ => 3 - (intOf i).toNat)
    case atStart => exact ⟨0, v4, inb, 0, 0, 0, by omega, rfl, rfl, HP5.out, rfl, HBY.out.2, HQ5.out⟩
    case round =>
      obtain ⟨k, v, xs, a, b, c, hk, rfl, rfl, hP, hop, hxl, hq⟩ := hrel
      have HP := hid hP
      have HQ := hid hq
      have HOP := hid hop
      have HXL := hid hxl
      have HG := hid (get_any wr HP.out.rs)
      have HNZ := hid (@numR_z xs)
      have hk4 : k = 0 ∨ k = 1 ∨ k = 2 ∨ k = 3 := by omega
      clear HP5 HQ5 hk hP hop hxl
      rcases hk4 with rfl | rfl | rfl | rfl
      · have HOK : Hid (op0 inb = if (numR xs).2.2 ≠ 0 then zf (numR xs).2.2 else op1 ((numR xs).1 : Int) (xs.drop (numR xs).2.1)) := hid HOP.out
        have HRL : Hid ((xs.drop (numR xs).2.1).length ≤ 140737488355328) := hid (by have := HXL.out; rw [List.length_drop]; omega)
        clear HOP HXL
        generalize (numR xs).1 = V at *
        generalize xs.drop (numR xs).2.1 = rest at *
        generalize (numR xs).2.2 = er at *
        have q0 := hq.cell 0 rfl
        go_wp2_with fail
        with_reducible refine HG.out.mono ?_
        rintro e w6 ⟨v6, rfl, hR6, f6, hft⟩
        have HP6 := hid (HP.out.get hR6 f6 hft)
        have HQ6 := hid (HQ.out.keep f6 (fun e => by subst e; exact absurd (HQ.out.type HP.out.rs.blk) (by decide)))
        have HQF : Hid (¬ q = f) := hid (fun e => by have h1 := HQ6.out; rw [e] at h1; exact absurd (h1.type HP6.out.fb) (by decide))
        have c3 := HP6.out.fb.cell 0 rfl
        have c3f := HP6.out.fb.free 0
        have HP7 := hid (HP6.out.put 0 (.int .i64 (V : Int)) (fr' := #[.int .i64 (V : Int), .int .i64 b, .int .i64 c, .slice none 0 0]) rfl)
        have HQ7 := hid (HQ6.out.other (p := ⟨f, 0, none⟩) HQF.out (.int .i64 (V : Int)))
        clear hR6 f6 hft hq q0 HG HP HQ HP6 HQ6 HQF
        by_cases he : er = 0
        · subst he
          have HE4 := HOK.out
          rw [if_neg (by simp)] at HE4
          have HE5 := hid HE4
          clear HOK HE4
          go_wp2_with fail
          go_roundw
          case rel => exact ⟨1, v6, rest, (V : Int), b, c, by omega, rfl, rfl, HP7.out, HE5.out, HRL.out, HQ7.out⟩
          case measure => simp [intOf]
        · have hne : (er != 0) = true := by simp [he]
          have HE4 := HOK.out
          rw [if_pos he] at HE4
          have HE5 := hid HE4
          have HYX := HP7.out.yb
          clear HOK HE4 he
          go_wp2_with (refine wpList_store_part rfl 24 _ _ rfl aggFrame y 0 rfl HYX (.agg #[.int .i64 0, .int .i64 0, .int .i64 0, .slice none 0 0]) rfl rfl (one_fr 0 0 0 none 0 0) (by decide) #[.int .i64 0, .int .i64 0, .int .i64 0, .slice none 0 0] rfl ?_)
          intro w9 B9 f9 z9
          have HF9 := hid (HP7.out.f0.into f9 HP7.out.ly)
          go_wp2_with fail
          exact bodyPost_ret (v := .tuple #[.agg #[.int .i64 0, .int .i64 0, .int .i64 0, .slice none 0 0], .int .i64 er]) (results_cell_slot rfl _ aggFrame rfl B9 rfl _ rfl) rfl (by rw [HO0.out, HE5.out]; exact isOpenF_zero HF9.out)
      · have HOK : Hid (op0 inb = if (numR xs).2.2 ≠ 0 then zf (numR xs).2.2 else op2 a ((numR xs).1 : Int) (xs.drop (numR xs).2.1)) := hid HOP.out
        have HRL : Hid ((xs.drop (numR xs).2.1).length ≤ 140737488355328) := hid (by have := HXL.out; rw [List.length_drop]; omega)
        clear HOP HXL
        generalize (numR xs).1 = V at *
        generalize xs.drop (numR xs).2.1 = rest at *
        generalize (numR xs).2.2 = er at *
        have q0 := hq.cell 1 rfl
        go_wp2_with fail
        with_reducible refine HG.out.mono ?_
        rintro e w6 ⟨v6, rfl, hR6, f6, hft⟩
        have HP6 := hid (HP.out.get hR6 f6 hft)
        have HQ6 := hid (HQ.out.keep f6 (fun e => by subst e; exact absurd (HQ.out.type HP.out.rs.blk) (by decide)))
        have HQF : Hid (¬ q = f) := hid (fun e => by have h1 := HQ6.out; rw [e] at h1; exact absurd (h1.type HP6.out.fb) (by decide))
        have c3 := HP6.out.fb.cell 1 rfl
        have c3f := HP6.out.fb.free 1
        have HP7 := hid (HP6.out.put 1 (.int .i64 (V : Int)) (fr' := #[.int .i64 a, .int .i64 (V : Int), .int .i64 c, .slice none 0 0]) rfl)
        have HQ7 := hid (HQ6.out.other (p := ⟨f, 1, none⟩) HQF.out (.int .i64 (V : Int)))
        clear hR6 f6 hft hq q0 HG HP HQ HP6 HQ6 HQF
        by_cases he : er = 0
        · subst he
          have HE4 := HOK.out
          rw [if_neg (by simp)] at HE4
          have HE5 := hid HE4
          clear HOK HE4
          go_wp2_with fail
          go_roundw
          case rel => exact ⟨2, v6, rest, a, (V : Int), c, by omega, rfl, rfl, HP7.out, HE5.out, HRL.out, HQ7.out⟩
          case measure => simp [intOf]
        · have hne : (er != 0) = true := by simp [he]
          have HE4 := HOK.out
          rw [if_pos he] at HE4
          have HE5 := hid HE4
          have HYX := HP7.out.yb
          clear HOK HE4 he
          go_wp2_with (refine wpList_store_part rfl 24 _ _ rfl aggFrame y 0 rfl HYX (.agg #[.int .i64 0, .int .i64 0, .int .i64 0, .slice none 0 0]) rfl rfl (one_fr 0 0 0 none 0 0) (by decide) #[.int .i64 0, .int .i64 0, .int .i64 0, .slice none 0 0] rfl ?_)
          intro w9 B9 f9 z9
          have HF9 := hid (HP7.out.f0.into f9 HP7.out.ly)
          go_wp2_with fail
          exact bodyPost_ret (v := .tuple #[.agg #[.int .i64 0, .int .i64 0, .int .i64 0, .slice none 0 0], .int .i64 er]) (results_cell_slot rfl _ aggFrame rfl B9 rfl _ rfl) rfl (by rw [HO0.out, HE5.out]; exact isOpenF_zero HF9.out)
      · have HOK : Hid (op0 inb = if (numR xs).2.2 ≠ 0 then zf (numR xs).2.2 else op3 a b ((numR xs).1 : Int) (xs.drop (numR xs).2.1)) := hid HOP.out
        have HRL : Hid ((xs.drop (numR xs).2.1).length ≤ 140737488355328) := hid (by have := HXL.out; rw [List.length_drop]; omega)
        clear HOP HXL
        generalize (numR xs).1 = V at *
        generalize xs.drop (numR xs).2.1 = rest at *
        generalize (numR xs).2.2 = er at *
        have q0 := hq.cell 2 rfl
        go_wp2_with fail
        with_reducible refine HG.out.mono ?_
        rintro e w6 ⟨v6, rfl, hR6, f6, hft⟩
        have HP6 := hid (HP.out.get hR6 f6 hft)
        have HQ6 := hid (HQ.out.keep f6 (fun e => by subst e; exact absurd (HQ.out.type HP.out.rs.blk) (by decide)))
        have HQF : Hid (¬ q = f) := hid (fun e => by have h1 := HQ6.out; rw [e] at h1; exact absurd (h1.type HP6.out.fb) (by decide))
        have c3 := HP6.out.fb.cell 2 rfl
        have c3f := HP6.out.fb.free 2
        have HP7 := hid (HP6.out.put 2 (.int .i64 (V : Int)) (fr' := #[.int .i64 a, .int .i64 b, .int .i64 (V : Int), .slice none 0 0]) rfl)
        have HQ7 := hid (HQ6.out.other (p := ⟨f, 2, none⟩) HQF.out (.int .i64 (V : Int)))
        clear hR6 f6 hft hq q0 HG HP HQ HP6 HQ6 HQF
        by_cases he : er = 0
        · subst he
          have HE4 := HOK.out
          rw [if_neg (by simp)] at HE4
          have HE5 := hid HE4
          clear HOK HE4
          go_wp2_with fail
          go_roundw
          case rel => exact ⟨3, v6, rest, a, b, (V : Int), by omega, rfl, rfl, HP7.out, HE5.out, HRL.out, HQ7.out⟩
          case measure => simp [intOf]
        · have hne : (er != 0) = true := by simp [he]
          have HE4 := HOK.out
          rw [if_pos he] at HE4
          have HE5 := hid HE4
          have HYX := HP7.out.yb
          clear HOK HE4 he
          go_wp2_with (refine wpList_store_part rfl 24 _ _ rfl aggFrame y 0 rfl HYX (.agg #[.int .i64 0, .int .i64 0, .int .i64 0, .slice none 0 0]) rfl rfl (one_fr 0 0 0 none 0 0) (by decide) #[.int .i64 0, .int .i64 0, .int .i64 0, .slice none 0 0] rfl ?_)
          intro w9 B9 f9 z9
          have HF9 := hid (HP7.out.f0.into f9 HP7.out.ly)
          go_wp2_with fail
          exact bodyPost_ret (v := .tuple #[.agg #[.int .i64 0, .int .i64 0, .int .i64 0, .slice none 0 0], .int .i64 er]) (results_cell_slot rfl _ aggFrame rfl B9 rfl _ rfl) rfl (by rw [HO0.out, HE5.out]; exact isOpenF_zero HF9.out)
      · have HOC := hid (oct_tw 512 wr HP.out.rs HXL.out)
        have HO3 : Hid (op0 inb = op3 a b c xs) := hid HOP.out
        clear HG HNZ HOP hq
        have HE3 : Hid (op3 a b c xs = (if (octR xs 512).2.1 ≠ 0 then zf (octR xs 512).2.1 else if 0 < (xs.drop (octR xs 512).2.2).length ∨ okF a b c = false then zf 4 else ⟨a, b, c, (octR xs 512).1, 0⟩)) := hid rfl
        generalize op3 a b c xs = o3 at *
        generalize (octR xs 512).2.1 = eo at *
        generalize (octR xs 512).1 = ob at *
        generalize xs.drop (octR xs 512).2.2 = rest at *
        go_wp2_with fail
        with_reducible refine HOC.out.mono ?_
        rintro e w6 ⟨v1, v6, rfl, hr6, ha6, hR6, f6, hft⟩
        have HP6 := hid (HP.out.get hR6 f6 hft)
        have HR6 := hid hr6
        have HA6 : Hid (Above w.heap.size (footOf v1)) := hid (fun k hk => Nat.le_trans HP.out.f0.size (ha6 k hk))
        have HAF : Hid (∀ k, k ∈ footOf v1 → ¬ k = f ∧ ¬ k = y) := hid (fun k hk => by
          have h1 := ha6 k hk; have h2 := HP.out.fb.lt; have h3 := HP.out.yb.lt; exact ⟨by omega, by omega⟩)
        obtain ⟨a1, c1, rfl⟩ := row_shape hr6
        obtain ⟨nb, hnb⟩ : ∃ nb, nb = ob.length := ⟨_, rfl⟩
        have HNB := hid hnb
        rw [← hnb] at HR6 HA6 HAF ⊢
        have c3 : w6.cell? ⟨f, 3, none⟩ = some (.slice none 0 0) := HP6.out.fb.cell 3 rfl
        have c3f := HP6.out.fb.free 3
        have HP7 := hid (HP6.out.put 3 (.slice a1 nb c1) (fr' := #[.int .i64 a, .int .i64 b, .int .i64 c, .slice a1 nb c1]) rfl)
        have HR7 := hid (row_keep HR6.out ((Fr.refl (· = f) w6).set1 3 (.slice a1 nb c1)) (fun k hk => (HAF.out k hk).1))
        clear hr6 ha6 hR6 f6 hft hnb HOC HQ HXL
        by_cases he : eo = 0
        · subst he
          have HE4 := HE3.out
          rw [if_neg (by simp)] at HE4
          have HE5 := hid HE4
          have HLF := hid (left_any _ HP7.out.rs)
          clear HE3 HE4
          go_wp2_with fail
          with_reducible refine HLF.out.mono ?_
          rintro e w8 ⟨rfl, hw8⟩
          subst hw8
          have HB7 := HP7.out.fb
          have f0 := HB7.cell 0 rfl
          have f1 := HB7.cell 1 rfl
          have f2 := HB7.cell 2 rfl
          have f3 : (w6.setCell ⟨f, 3, none⟩ (.slice a1 nb c1)).cell? ⟨f, 3, none⟩ = some (.slice a1 nb c1) := HB7.cell 3 rfl
          clear c3 c3f HLF
          by_cases hlen : 0 < rest.length
          · have hlp : ((rest.length : Int) > 0) := by omega
            have HE6 : Hid (o3 = zf 4) := hid (by rw [HE5.out, if_pos (.inl hlen)])
            have HYX := HP7.out.yb
            clear HE5 f0 f1 f2 f3 HB7
            go_wp2_with (refine wpList_store_part rfl 24 _ _ rfl aggFrame y 0 rfl HYX (.agg #[.int .i64 0, .int .i64 0, .int .i64 0, .slice none 0 0]) rfl rfl (one_fr 0 0 0 none 0 0) (by decide) #[.int .i64 0, .int .i64 0, .int .i64 0, .slice none 0 0] rfl ?_)
            intro w9 B9 f9 z9
            have HF9 := hid (HP7.out.f0.into f9 HP7.out.ly)
            go_wp2_with fail
            exact bodyPost_ret (v := .tuple #[.agg #[.int .i64 0, .int .i64 0, .int .i64 0, .slice none 0 0], .int .i64 4]) (results_cell_slot rfl _ aggFrame rfl B9 rfl _ rfl) rfl (by rw [HO0.out, HO3.out, HE6.out]; exact isOpenF_zero HF9.out)
          · have hlz : rest.length = 0 := by omega
            rw [hlz]
            have HMY := hid (fun W => may_tw a b c (.slice a1 nb c1) W)
            cases hok : okF a b c with
            | false =>
              have HE6 : Hid (o3 = zf 4) := hid (by rw [HE5.out, if_pos (.inr hok)])
              rw [hok] at HMY
              clear HE5 hok hlen hlz
              go_wp2_with (refine wpList_load_part_if rfl 24 _ rfl aggFrame f 0 rfl HB7 #[.int .i64 a, .int .i64 b, .int .i64 c, .slice a1 nb c1] rfl rfl ?_)
              with_reducible refine (HMY.out _).mono ?_
              rintro e w8 ⟨rfl, f8⟩
              have HP8 := hid (HP7.out.keep f8)
              have HYX := HP8.out.yb
              clear f0 f1 f2 f3 HB7 f8
              go_wp2_with (refine wpList_store_part rfl 24 _ _ rfl aggFrame y 0 rfl HYX (.agg #[.int .i64 0, .int .i64 0, .int .i64 0, .slice none 0 0]) rfl rfl (one_fr 0 0 0 none 0 0) (by decide) #[.int .i64 0, .int .i64 0, .int .i64 0, .slice none 0 0] rfl ?_)
              intro w9 B9 f9 z9
              have HF9 := hid (HP8.out.f0.into f9 HP8.out.ly)
              go_wp2_with fail
              exact bodyPost_ret (v := .tuple #[.agg #[.int .i64 0, .int .i64 0, .int .i64 0, .slice none 0 0], .int .i64 4]) (results_cell_slot rfl _ aggFrame rfl B9 rfl _ rfl) rfl (by rw [HO0.out, HO3.out, HE6.out]; exact isOpenF_zero HF9.out)
            | true =>
              have HE6 : Hid (o3 = ⟨a, b, c, ob, 0⟩) := hid (by rw [HE5.out, if_neg (by rw [hok]; simp; exact List.length_eq_zero_iff.1 hlz)])
              rw [hok] at HMY
              clear HE5 hok hlen hlz
              go_wp2_with (refine wpList_load_part_if rfl 24 _ rfl aggFrame f 0 rfl HB7 #[.int .i64 a, .int .i64 b, .int .i64 c, .slice a1 nb c1] rfl rfl ?_)
              with_reducible refine (HMY.out _).mono ?_
              rintro e w8 ⟨rfl, f8⟩
              have HP8 := hid (HP7.out.keep f8)
              have HR8 := hid (row_keep HR7.out f8 (fun _ _ h => h))
              have HYX := HP8.out.yb
              have HFX := HP8.out.fb
              clear f0 f1 f2 f3 HB7 f8
              go_wp2_with (first | (refine wpList_load_part rfl 24 _ rfl aggFrame f 0 rfl HFX #[.int .i64 a, .int .i64 b, .int .i64 c, .slice a1 nb c1] rfl rfl ?_) | (refine wpList_store_part rfl 24 _ _ rfl aggFrame y 0 rfl HYX (.agg #[.int .i64 a, .int .i64 b, .int .i64 c, .slice a1 nb c1]) rfl rfl (one_fr a b c a1 nb c1) (Nat.le_refl 4) #[.int .i64 a, .int .i64 b, .int .i64 c, .slice a1 nb c1] rfl ?_))
              intro w9 B9 f9 z9
              have HF9 := hid (HP8.out.f0.into f9 HP8.out.ly)
              have HR9 := hid (row_keep HR8.out f9 (fun k hk => (HAF.out k hk).2))
              go_wp2_with fail
              exact bodyPost_ret (v := .tuple #[.agg #[.int .i64 a, .int .i64 b, .int .i64 c, .slice a1 nb c1], .int .i64 0]) (results_cell_slot rfl _ aggFrame rfl B9 rfl _ rfl) rfl (by rw [HO0.out, HO3.out, HE6.out]; exact ⟨_, rfl, by have h1 := HR9.out; rw [HNB.out] at h1 ⊢; exact h1, HF9.out, HA6.out⟩)
        · have hne : (eo != 0) = true := by simp [he]
          have HE4 := HE3.out
          rw [if_pos he] at HE4
          have HE5 := hid HE4
          have HYX := HP7.out.yb
          clear HE3 HE4 he
          go_wp2_with (refine wpList_store_part rfl 24 _ _ rfl aggFrame y 0 rfl HYX (.agg #[.int .i64 0, .int .i64 0, .int .i64 0, .slice none 0 0]) rfl rfl (one_fr 0 0 0 none 0 0) (by decide) #[.int .i64 0, .int .i64 0, .int .i64 0, .slice none 0 0] rfl ?_)
          intro w9 B9 f9 z9
          have HF9 := hid (HP7.out.f0.into f9 HP7.out.ly)
          go_wp2_with fail
          exact bodyPost_ret (v := .tuple #[.agg #[.int .i64 0, .int .i64 0, .int .i64 0, .slice none 0 0], .int .i64 eo]) (results_cell_slot rfl _ aggFrame rfl B9 rfl _ rfl) rfl (by rw [HO0.out, HO3.out, HE5.out]; exact isOpenF_zero HF9.out)
  · have hne : (eo != 0) = true := by simp [he0]
    have HO0 : Hid (oF = zf eo) := hid (by rw [HOF.out, if_pos he0])
    clear HOF
    have HYX := HY2.out
    clear HRI HBY
    go_wp2_with (refine wpList_store_part rfl 24 _ _ rfl aggFrame y 0 rfl HYX (.agg #[.int .i64 0, .int .i64 0, .int .i64 0, .slice none 0 0]) rfl rfl (one_fr 0 0 0 none 0 0) (by decide) #[.int .i64 0, .int .i64 0, .int .i64 0, .slice none 0 0] rfl ?_)
    intro w9 B9 f9 z9
    have HF9 := hid (HF2.out.into f9 hyw)
    go_wp2_with fail
    exact bodyPost_ret (v := .tuple #[.agg #[.int .i64 0, .int .i64 0, .int .i64 0, .slice none 0 0], .int .i64 eo]) (results_cell_slot rfl _ aggFrame rfl B9 rfl _ rfl) rfl (by rw [HO0.out]; exact isOpenF_zero HF9.out)
end Go.Proofs.Ytalbncnhmofgaaa
