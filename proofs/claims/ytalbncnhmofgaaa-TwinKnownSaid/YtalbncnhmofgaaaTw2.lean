/-
  FRAMES (ch 11): WHAT Pack OF twin AND OF THE DOCUMENT ANSWER. Conditions: none.
-/
import Derived.Test.YtalbncnhmofgaaaTw1
import Derived.Test.YtalbncnhmofgaaaBig
namespace Go.Proofs.Ytalbncnhmofgaaa
open Go.RowKit

set_option linter.unusedSimpArgs false
/-- A writer of the call's own. -/
structure PW (w wr : World) (g : Nat) (v : Value) (xs : List Int) : Prop where
  ws : WS wr g v xs
  fr : Fr (fun _ => False) w wr
  lo : w.heap.size ≤ g
  av : Above w.heap.size (footOf v)
theorem PW.step {w wr w5 : World} {g : Nat} {v v5 : Value} {xs ys : List Int} (h : PW w wr g v xs) (hs : WS w5 g v5 ys) (f : Fr (fun k => k = g ∨ k ∈ footOf v) wr w5) (gr : Grows wr (footOf v) (footOf v5)) : PW w w5 g v5 ys :=
  ⟨hs, h.fr.step f (fun k hk hS => by
      rcases hS with hS | hS
      · have := h.lo; omega
      · have := h.av k hS; omega), h.lo, h.av.grows gr h.fr.size⟩
theorem PW.keep {w wr w5 : World} {g : Nat} {v : Value} {xs : List Int} (h : PW w wr g v xs) (f : Fr (fun _ => False) wr w5) : PW w w5 g v xs := ⟨h.ws.keep f, h.fr.trans f, h.lo, h.av⟩
structure PQ (w wr : World) (g : Nat) (v : Value) (xs : List Int) : Prop where
  ws : WQ wr g v xs
  fr : Fr (fun _ => False) w wr
  lo : w.heap.size ≤ g
  av : Above w.heap.size (footOf v)
theorem PQ.step {w wr w5 : World} {g : Nat} {v v5 : Value} {xs ys : List Int} (h : PQ w wr g v xs) (hs : WQ w5 g v5 ys) (f : Fr (fun k => k = g ∨ k ∈ footOf v) wr w5) (gr : Grows wr (footOf v) (footOf v5)) : PQ w w5 g v5 ys :=
  ⟨hs, h.fr.step f (fun k hk hS => by
      rcases hS with hS | hS
      · have := h.lo; omega
      · have := h.av k hS; omega), h.lo, h.av.grows gr h.fr.size⟩
theorem PQ.keep {w wr w5 : World} {g : Nat} {v : Value} {xs : List Int} (h : PQ w wr g v xs) (f : Fr (fun _ => False) wr w5) : PQ w w5 g v xs := ⟨h.ws.keep0 f, h.fr.trans f, h.lo, h.av⟩
/-- What Pack answers, in memory of its own. -/
def IsPack (w : World) (p : List Int × Int) (e : Ending) (w' : World) : Prop :=
  ∃ v', e = .returned (.tuple #[v', .int .i64 p.2]) ∧ w'.ownsRow 0 5 1 v' p.1.length (p.1.map (.int .u8)) ∧ Fr (fun _ => False) w w' ∧ Above w.heap.size (footOf v')
theorem isPack_nil {w w' : World} {k : Int} (f : Fr (fun _ => False) w w') : IsPack w ([], k) (.returned (.tuple #[.slice none 0 0, .int .i64 k])) w' :=
  ⟨.slice none 0 0, rfl, World.ownsRow_nil _ _ _ _, f, fun b hb => by simp [footOf, Value.ownBlock] at hb⟩
theorem vb_most {x : Nat} : (vb x).length ≤ 9 := vbF_len 8 x
theorem wput_i {g : Nat} {v : Value} {xs : List Int} (V : Int) (w : World) (h : WS w g v xs) (hl : xs.length ≤ 1099511627776) (h0 : 1 ≤ V) (hV : V ≤ 9007199254740991) :
    Calls Try.prog 34 #[.pointer (some ⟨g, 0, none⟩), .int .i64 V] w fun e w' => ∃ v', e = .returned (.int .i64 0) ∧ WS w' g v' (xs ++ vb V.toNat) ∧ Fr (fun k => k = g ∨ k ∈ footOf v) w w' ∧ Grows w (footOf v) (footOf v') := by
  have := wput_any V.toNat w h hl (by omega)
  rw [show ((V.toNat : Nat) : Int) = V by omega] at this
  exact this
theorem rwput_i {g : Nat} {v : Value} {xs : List Int} (V : Int) (w : World) (h : WQ w g v xs) (hl : xs.length ≤ 1099511627776) (h0 : 1 ≤ V) (hV : V ≤ 9007199254740991) :
    Calls Try.prog 39 #[.pointer (some ⟨g, 0, none⟩), .int .i64 V] w fun e w' => ∃ v', e = .returned (.int .i64 0) ∧ WQ w' g v' (xs ++ vb V.toNat) ∧ Fr (fun k => k = g ∨ k ∈ footOf v) w w' ∧ Grows w (footOf v) (footOf v') := by
  have := rwput_any V.toNat w h hl (by omega)
  rw [show ((V.toNat : Nat) : Int) = V by omega] at this
  exact this
theorem aggFrame : AggT Try.prog 24 4 := ⟨⟨_, Try.underlying24, rfl⟩, by kernel_rfl⟩
theorem zeroFrame (W : World) : (zeroValue 24).run Try.prog W = .ok (.agg #[.int .i64 0, .int .i64 0, .int .i64 0, .slice none 0 0]) W := by kernel_rfl

set_option maxRecDepth 100000 in
set_option maxHeartbeats 2000000 in
theorem pack_tw (s l r : Int) (u : Value) (bs : List Int) (w : World) (hv : Vw .u8 w u bs) (hb : AllB bs) : Calls Try.prog 11 #[.agg #[.int .i64 s, .int .i64 l, .int .i64 r, u]] w (IsPack w (packR s l r bs)) := by
  obtain ⟨ao, cap, rfl, hlc, hcm, _⟩ := id hv
  have HMY := hid (fun W => may_tw s l r (.slice ao bs.length cap) W)
  have HV := hid hv
  have HAB := hid hb
  have HB0 := Blk.new w #[.int .i64 s, .int .i64 l, .int .i64 r, .slice ao bs.length cap] 24
  have HF0 := (Fr.refl (fun _ => False) w).alloc (.cells #[.int .i64 s, .int .i64 l, .int .i64 r, .slice ao bs.length cap] 24)
  have hn9 : bs.length ≤ 9223372036854775807 := by unfold maxLen at hcm; omega
  clear hv hb
  unfold packR
  by_cases h5 : 512 < bs.length
  · rw [if_pos h5]
    have HNL := hid (rfl : bs.length = bs.length)
    obtain ⟨n, hn⟩ : ∃ n, n = bs.length := ⟨_, rfl⟩
    rw [← hn] at h5 HB0 HF0 hn9 ⊢
    clear hn HV HAB hlc HMY HNL
    have h5d : decide (512 < (n : Int)) = true := decide_eq_true (by omega)
    clear h5 hn9
    go_enter Try.func11, Try.ntmps11
    go_wp2_with fail
    generalize (w.alloc (.cells #[.int .i64 s, .int .i64 l, .int .i64 r, .slice ao n cap] 24)) = w1 at *
    generalize w.heap.size = p at *
    have p3 : w1.cell? ⟨p, 3, none⟩ = some (.slice ao n cap) := HB0.cell 3 rfl
    go_wp2_with fail
    go_ret2
    exact isPack_nil HF0
  · rw [if_neg h5]
    have HN5 := hid (show bs.length ≤ 512 by omega)
    obtain ⟨n, hn⟩ : ∃ n, n = bs.length := ⟨_, rfl⟩
    have HN := hid hn
    rw [← hn] at h5 HB0 HF0 hn9 HV HMY HN5 ⊢
    have h5d : decide (512 < (n : Int)) = false := decide_eq_false (by omega)
    clear hn hlc h5 hn9
    have HF0 := hid HF0
    have PS : Hid (∀ W, Fr (fun _ => False) (w.alloc (.cells #[.int .i64 s, .int .i64 l, .int .i64 r, .slice ao n cap] 24)) W → W.cell? ⟨w.heap.size, 0, none⟩ = some (.int .i64 s) ∧ W.cell? ⟨w.heap.size, 1, none⟩ = some (.int .i64 l) ∧ W.cell? ⟨w.heap.size, 2, none⟩ = some (.int .i64 r) ∧ W.cell? ⟨w.heap.size, 3, none⟩ = some (.slice ao n cap)) := hid (fun W f => by
      have hb := HB0.keep f (fun h => h)
      exact ⟨hb.cell 0 rfl, hb.cell 1 rfl, hb.cell 2 rfl, hb.cell 3 rfl⟩)
    cases hok : okF s l r with
    | false =>
      rw [hok] at HMY
      go_enter Try.func11, Try.ntmps11
      go_wp2_with fail
      generalize (w.alloc (.cells #[.int .i64 s, .int .i64 l, .int .i64 r, .slice ao n cap] 24)) = w1 at *
      generalize w.heap.size = p at *
      obtain ⟨p0, p1, p2, p3⟩ := PS.out _ (Fr.refl _ _)
      go_wp2_with fail
      with_reducible refine (HMY.out _).mono ?_
      rintro e w2 ⟨rfl, f2⟩
      go_wp2_with fail
      go_ret2
      exact isPack_nil (HF0.out.trans f2)
    | true =>
      rw [hok] at HMY
      simp only [if_true]
      obtain ⟨⟨s1, s2⟩, ⟨l1, l2⟩, r1, r2⟩ := (okF_iff s l r).1 hok
      have HBD := hid (And.intro (And.intro s1 (Int.le_trans s2 (by decide : (8 : Int) ≤ 9007199254740991))) (And.intro (And.intro l1 l2) (And.intro r1 r2)))
      have HBY := hid (fmB_byte hok HAB.out (by rw [← HN.out]; exact HN5.out))
      have HLN := hid (fmB_len s l r bs)
      have HFB : Hid (fmB s l r bs = ((vb s.toNat ++ vb l.toNat) ++ vb r.toNat) ++ vb bs.length ++ bs) := hid rfl
      generalize fmB s l r bs = FB at *
      clear s1 s2 l1 l2 r1 r2 hok
      go_enter Try.func11, Try.ntmps11
      go_wp2_with fail
      generalize hw1 : (w.alloc (.cells #[.int .i64 s, .int .i64 l, .int .i64 r, .slice ao n cap] 24)) = w1 at *
      have hsz : w.heap.size ≤ w.heap.size := Nat.le_refl _
      generalize hp : w.heap.size = p at *
      clear hw1 hsz
      obtain ⟨p0, p1, p2, p3⟩ := PS.out _ (Fr.refl _ _)
      go_wp2_with fail
      with_reducible refine (HMY.out _).mono ?_
      rintro e w2 ⟨rfl, f2⟩
      have HF2 := hid (HF0.out.trans f2)
      have PS2 := hid (fun W (f : Fr (fun _ => False) w2 W) => PS.out W (f2.trans f))
      clear f2 p0 p1 p2 p3 PS HF0 HMY
      go_wp2_with fail
      with_reducible refine (write_any w2).mono ?_
      rintro e w3 ⟨g, rfl, hW, f3, hg⟩
      have HW : Hid (PW w2 w3 g (.slice none 0 0) []) := hid ⟨hW, f3, hg, fun k hk => by simp [footOf, Value.ownBlock] at hk⟩
      clear hW f3 hg
      obtain ⟨p0, p1, p2, p3⟩ := PS2.out _ HW.out.fr
      go_wp2_with fail
      have HBQ := Blk.new w3 #[.int .i64 s, .int .i64 l, .int .i64 r] 3
      have HW4 := hid (HW.out.keep ((Fr.refl (fun _ => False) w3).alloc (.cells #[.int .i64 s, .int .i64 l, .int .i64 r] 3)))
      generalize w3.alloc (.cells #[.int .i64 s, .int .i64 l, .int .i64 r] 3) = w4 at *
      generalize w3.heap.size = q at *
      clear p0 p1 p2 p3 HW
      have HBQ := hid HBQ
      go_loopw [25] (fun i wr => ∃ (k : Nat) (v : Value) (xs : List Int), k ≤ 3 ∧ i = .int .i64 k ∧ PW w2 wr g v xs ∧ xs = (if k = 0 then [] else if k = 1 then vb s.toNat else if k = 2 then vb s.toNat ++ vb l.toNat else (vb s.toNat ++ vb l.toNat) ++ vb r.toNat) ∧ Blk wr q #[.int .i64 s, .int .i64 l, .int .i64 r] 3) (fun i _ => 3 - (intOf i).toNat)
      case atStart => exact ⟨0, _, _, by omega, rfl, HW4.out, rfl, HBQ.out⟩
      case round =>
        obtain ⟨k, v, xs, hk, rfl, hW, hxs, hq⟩ := hrel
        have HW := hid hW
        have HQ := hid hq
        clear HW4 HBQ
        have hk4 : k = 0 ∨ k = 1 ∨ k = 2 ∨ k = 3 := by omega
        clear hk
        have HLS : Hid (xs.length ≤ 1099511627776) := hid (by
          have h1 := @vb_most s.toNat; have h2 := @vb_most l.toNat; have h3 := @vb_most r.toNat
          rw [hxs]; repeat' split
          all_goals simp
          all_goals omega)
        rcases hk4 with rfl | rfl | rfl | rfl
        · have q0 := hq.cell 0 rfl
          have HX : Hid (xs ++ vb s.toNat = vb s.toNat) := hid (by rw [hxs]; rfl)
          have HP := hid (wput_i s wr HW.out.ws HLS.out HBD.out.1.1 HBD.out.1.2)
          clear hxs hW hq
          go_wp2_with fail
          with_reducible refine HP.out.mono ?_
          rintro e w5 ⟨v5, rfl, hs5, f5, g5⟩
          have HW5 := hid (HW.out.step hs5 f5 g5)
          have HQ5 := hid (HQ.out.keep f5 (fun hS => by
            rcases hS with hS | hS
            · subst hS; exact absurd (HQ.out.type HW.out.ws.blk) (by decide)
            · obtain ⟨cs2, bl2⟩ := row_type HW.out.ws.row hS
              exact absurd (HQ.out.type bl2) (by decide)))
          rw [HX.out] at HW5
          clear hs5 f5 g5 q0 HP HX
          go_wp2_with fail
          go_roundw
          case rel => exact ⟨1, v5, _, by omega, rfl, HW5.out, rfl, HQ5.out⟩
          case measure => simp [intOf]
        · have q0 := hq.cell 1 rfl
          have HX : Hid (xs ++ vb l.toNat = vb s.toNat ++ vb l.toNat) := hid (by rw [hxs]; rfl)
          have HP := hid (wput_i l wr HW.out.ws HLS.out HBD.out.2.1.1 HBD.out.2.1.2)
          clear hxs hW hq
          go_wp2_with fail
          with_reducible refine HP.out.mono ?_
          rintro e w5 ⟨v5, rfl, hs5, f5, g5⟩
          have HW5 := hid (HW.out.step hs5 f5 g5)
          have HQ5 := hid (HQ.out.keep f5 (fun hS => by
            rcases hS with hS | hS
            · subst hS; exact absurd (HQ.out.type HW.out.ws.blk) (by decide)
            · obtain ⟨cs2, bl2⟩ := row_type HW.out.ws.row hS
              exact absurd (HQ.out.type bl2) (by decide)))
          rw [HX.out] at HW5
          clear hs5 f5 g5 q0 HP HX
          go_wp2_with fail
          go_roundw
          case rel => exact ⟨2, v5, _, by omega, rfl, HW5.out, rfl, HQ5.out⟩
          case measure => simp [intOf]
        · have q0 := hq.cell 2 rfl
          have HX : Hid (xs ++ vb r.toNat = (vb s.toNat ++ vb l.toNat) ++ vb r.toNat) := hid (by rw [hxs]; rfl)
          have HP := hid (wput_i r wr HW.out.ws HLS.out HBD.out.2.2.1 HBD.out.2.2.2)
          clear hxs hW hq
          go_wp2_with fail
          with_reducible refine HP.out.mono ?_
          rintro e w5 ⟨v5, rfl, hs5, f5, g5⟩
          have HW5 := hid (HW.out.step hs5 f5 g5)
          have HQ5 := hid (HQ.out.keep f5 (fun hS => by
            rcases hS with hS | hS
            · subst hS; exact absurd (HQ.out.type HW.out.ws.blk) (by decide)
            · obtain ⟨cs2, bl2⟩ := row_type HW.out.ws.row hS
              exact absurd (HQ.out.type bl2) (by decide)))
          rw [HX.out] at HW5
          clear hs5 f5 g5 q0 HP HX
          go_wp2_with fail
          go_roundw
          case rel => exact ⟨3, v5, _, by omega, rfl, HW5.out, rfl, HQ5.out⟩
          case measure => simp [intOf]
        · have hx3 : xs = (vb s.toNat ++ vb l.toNat) ++ vb r.toNat := by rw [hxs]; rfl
          subst hx3
          obtain ⟨p0, p1, p2, p3⟩ := PS2.out _ hW.fr
          clear hxs hW hq p0 p1 p2 HLS HQ
          go_wp2_with fail
          have HAPB : Hid (bs ≠ [] → ∀ k, k ∈ footOf (.slice ao n cap) → k ≠ g ∧ k ∉ footOf v) := hid (fun hne k hk => by
            have h1 := HV.out.live hne k hk
            have h2 := HF2.out.size
            exact ⟨by have := HW.out.lo; omega, fun h => by have := HW.out.av k h; omega⟩)
          with_reducible refine (woctets_e wr HW.out.ws (by have h1 := @vb_most s.toNat; have h2 := @vb_most l.toNat; have h3 := @vb_most r.toNat; simp only [List.length_append]; omega) (HV.out.keep0 (HF2.out.trans HW.out.fr)) HAPB.out (by have := HLN.out; rw [HFB.out] at this; have h5 := HN5.out; rw [HN.out] at h5; simp only [List.length_append] at this ⊢; omega)).mono ?_
          rintro e w6 ⟨v6, rfl, hW6, f6, g6⟩
          have HW6 := hid (HW.out.step hW6 f6 g6)
          rw [← HFB.out] at HW6
          clear hW6 f6 g6 p3 HW HAPB
          go_wp2_with fail
          with_reducible refine (bytes_any w6 HW6.out.ws (by have := HLN.out; have h5 := HN5.out; rw [HN.out] at h5; omega)).mono ?_
          rintro e w7 ⟨v7, rfl, hr7, f7, ha7⟩
          have HF7 := hid (HF2.out.trans (HW6.out.fr.trans f7))
          have HV7 := hid (Vw.of_row hr7)
          clear hr7 f7 ha7 HW6
          go_wp2_with fail
          with_reducible refine (seal_any v7 FB w7 HV7.out HBY.out (by have := HLN.out; have h5 := HN5.out; rw [HN.out] at h5; omega)).mono ?_
          rintro e w8 ⟨v8, rfl, hr8, f8, ha8⟩
          obtain ⟨a8, c8, rfl⟩ := row_shape hr8
          have HR8 := hid hr8
          have HA8 := hid ha8
          have HF8 := hid (HF7.out.trans f8)
          clear hr8 ha8 f8 HV7
          obtain ⟨n8, hn8⟩ : ∃ n8, n8 = FB.length + 4 := ⟨_, rfl⟩
          have HN8 := hid hn8
          rw [← hn8] at HR8 HA8 ⊢
          clear hn8
          go_wp2_with fail
          go_ret2
          exact ⟨_, rfl, by have h1 := HR8.out; rw [HN8.out, ← sealed_len FB] at h1 ⊢; exact h1, HF8.out, fun k hk => Nat.le_trans HF7.out.size (HA8.out k hk)⟩

theorem rnumber_tw (v : Int) (w : World) : Calls Try.prog 60 #[.int .i64 v] w fun e w' => e = .returned (.bool (okN v)) ∧ Fr (fun _ => False) w w' := by
  by_cases h1 : 1 ≤ v
  · by_cases h2 : v ≤ 9007199254740991
    · go_enter Try.func60, Try.ntmps60
      go_wp2
      go_ret
      exact ⟨ret_bool (by simp [okN, h1, h2]), Fr.refl _ _⟩
    · go_enter Try.func60, Try.ntmps60
      go_wp2
      go_ret
      exact ⟨ret_bool (by unfold okN; simp; omega), Fr.refl _ _⟩
  · go_enter Try.func60, Try.ntmps60
    go_wp2
    go_ret
    exact ⟨ret_bool (by unfold okN; simp; omega), Fr.refl _ _⟩
set_option maxRecDepth 100000 in
theorem rmay_tw (s l r : Int) (ao : Option Addr) (n cap : Nat) (w : World) (hn : n ≤ 512) : Calls Try.prog 37 #[.agg #[.int .i64 s, .int .i64 l, .int .i64 r, .slice ao n cap]] w fun e w' => e = .returned (.bool (okF s l r)) ∧ Fr (fun _ => False) w w' := by
  have HL := hid (fun W => rnumber_tw l W)
  have HR := hid (fun W => rnumber_tw r W)
  have HV : Hid (okF s l r = (okS s && okN l && okN r)) := hid rfl
  have hn5 : decide ((n : Int) ≤ 512) = true := decide_eq_true (by omega)
  generalize okF s l r = o at *
  generalize okN l = x2 at *
  generalize okN r = x3 at *
  have HB := Blk.new w #[.int .i64 s, .int .i64 l, .int .i64 r, .slice ao n cap] 24
  have HF := (Fr.refl (fun _ => False) w).alloc (.cells #[.int .i64 s, .int .i64 l, .int .i64 r, .slice ao n cap] 24)
  have hs : (∃ _ : 1 ≤ s, s ≤ 8) ∨ (¬ 1 ≤ s) ∨ (1 ≤ s ∧ ¬ s ≤ 8) := by
    by_cases h1 : 1 ≤ s
    · by_cases h2 : s ≤ 8
      · exact .inl ⟨h1, h2⟩
      · exact .inr (.inr ⟨h1, h2⟩)
    · exact .inr (.inl h1)
  rcases hs with ⟨h1, h2⟩ | h1 | ⟨h1, h2⟩
  · have HS : Hid (okS s = true) := hid ((okS_iff s).2 ⟨h1, h2⟩)
    cases x2 <;> cases x3 <;>
    · go_enter Try.func37, Try.ntmps37
      go_wp2_with fail
      generalize (w.alloc (.cells #[.int .i64 s, .int .i64 l, .int .i64 r, .slice ao n cap] 24)) = w1 at *
      generalize w.heap.size = p at *
      have p0 := HB.cell 0 rfl
      have p1 := HB.cell 1 rfl
      go_wp2_with (first
        | (go_at_call 60; with_reducible refine (HL.out _).mono ?_; rintro e w2 ⟨rfl, f2⟩; have p2 := (HB.keep f2 (fun h => h)).cell 2 rfl)
        | (go_at_call 60; with_reducible refine (HR.out _).mono ?_; rintro e w3 ⟨rfl, f3⟩; have p3 : w3.cell? ⟨p, 3, none⟩ = some (.slice ao n cap) := (HB.keep (f2.trans f3) (fun h => h)).cell 3 rfl))
      go_ret
      exact ⟨ret_bool (by rw [HV.out, HS.out]; rfl), by first | exact HF.trans (f2.trans f3) | exact HF.trans f2⟩
  · have HS : Hid (okS s = false) := hid (by unfold okS; simp; omega)
    go_enter Try.func37, Try.ntmps37
    go_wp2_with fail
    go_ret
    exact ⟨ret_bool (by rw [HV.out, HS.out]; rfl), HF⟩
  · have HS : Hid (okS s = false) := hid (by unfold okS; simp; omega)
    go_enter Try.func37, Try.ntmps37
    go_wp2_with fail
    go_ret
    exact ⟨ret_bool (by rw [HV.out, HS.out]; rfl), HF⟩
set_option maxRecDepth 100000 in
theorem rwbytes_any {g : Nat} {v : Value} {xs : List Int} (w : World) (h : WQ w g v xs) (hl : xs.length ≤ 140737488355328) : Calls Try.prog 42 #[.pointer (some ⟨g, 0, none⟩)] w fun e w' => ∃ v', e = .returned v' ∧ w'.ownsRow 0 5 1 v' xs.length (xs.map (.int .u8)) ∧ Fr (fun _ => False) w w' ∧ Above w.heap.size (footOf v') := by
  obtain ⟨i0, i1, i2, i3, i4⟩ := byteI
  have HV := hid (Vw.of_row h.row)
  have hl2 : 0 + xs.length ≤ maxLen ∧ (0 + xs.length) * 1 ≤ 140737488355328 := by unfold maxLen; omega
  have HL := hid hl2
  obtain ⟨ao, cap, rfl⟩ := row_shape h.row
  have c0 := h.blk.cell 0 rfl
  clear h hl hl2
  go_enter Try.func42, Try.ntmps42
  go_wp2_with (at_builtin; refine wpList_append_vw rfl _ _ 22 rfl 5 i0 _ 1 Try.underlying22 i1 i2 i3 i4 rfl (.slice none 0 0) 0 [] rfl (World.ownsRow_nil w 0 5 1) .u8 _ xs rfl HV.out HL.out.1 HL.out.2 ?_)
  intro v' w' r1 r2 r3
  have f0 : Fr (fun _ => False) w w' := r2.mono (fun k _ h => by simp [footOf, Value.ownBlock] at h)
  obtain ⟨a1, c1, rfl⟩ := row_shape r1
  go_wp2_with fail
  go_ret
  refine ⟨_, rfl, by simpa using r1, f0, fun k hk => ?_⟩
  rcases r3 k hk with h | h
  · simp [footOf, Value.ownBlock] at h
  · exact h

set_option maxRecDepth 100000 in
set_option maxHeartbeats 2000000 in
theorem rpack_tw (s l r : Int) (u : Value) (bs : List Int) (w : World) (hv : Vw .u8 w u bs) (hb : AllB bs) : Calls Try.prog 12 #[.agg #[.int .i64 s, .int .i64 l, .int .i64 r, u]] w (IsPack w (packR s l r bs)) := by
  obtain ⟨ao, cap, rfl, hlc, hcm, _⟩ := id hv
  have HMY := hid (fun W (h : bs.length ≤ 512) => rmay_tw s l r ao bs.length cap W h)
  have HV := hid hv
  have HAB := hid hb
  have HB0 := Blk.new w #[.int .i64 s, .int .i64 l, .int .i64 r, .slice ao bs.length cap] 24
  have HF0 := (Fr.refl (fun _ => False) w).alloc (.cells #[.int .i64 s, .int .i64 l, .int .i64 r, .slice ao bs.length cap] 24)
  have hn9 : bs.length ≤ 9223372036854775807 := by unfold maxLen at hcm; omega
  clear hv hb
  unfold packR
  by_cases h5 : 512 < bs.length
  · rw [if_pos h5]
    have HNL := hid (rfl : bs.length = bs.length)
    obtain ⟨n, hn⟩ : ∃ n, n = bs.length := ⟨_, rfl⟩
    rw [← hn] at h5 HB0 HF0 hn9 ⊢
    clear hn HV HAB hlc HMY HNL
    have h5d : decide (512 < (n : Int)) = true := decide_eq_true (by omega)
    clear h5 hn9
    go_enter Try.func12, Try.ntmps12
    go_wp2_with fail
    generalize (w.alloc (.cells #[.int .i64 s, .int .i64 l, .int .i64 r, .slice ao n cap] 24)) = w1 at *
    generalize w.heap.size = p at *
    have p3 : w1.cell? ⟨p, 3, none⟩ = some (.slice ao n cap) := HB0.cell 3 rfl
    go_wp2_with fail
    go_ret2
    exact isPack_nil HF0
  · rw [if_neg h5]
    have HN5 := hid (show bs.length ≤ 512 by omega)
    obtain ⟨n, hn⟩ : ∃ n, n = bs.length := ⟨_, rfl⟩
    have HN := hid hn
    rw [← hn] at h5 HB0 HF0 hn9 HV HMY HN5 ⊢
    have h5d : decide (512 < (n : Int)) = false := decide_eq_false (by omega)
    clear hn hlc h5 hn9
    have HF0 := hid HF0
    have PS : Hid (∀ W, Fr (fun _ => False) (w.alloc (.cells #[.int .i64 s, .int .i64 l, .int .i64 r, .slice ao n cap] 24)) W → W.cell? ⟨w.heap.size, 0, none⟩ = some (.int .i64 s) ∧ W.cell? ⟨w.heap.size, 1, none⟩ = some (.int .i64 l) ∧ W.cell? ⟨w.heap.size, 2, none⟩ = some (.int .i64 r) ∧ W.cell? ⟨w.heap.size, 3, none⟩ = some (.slice ao n cap)) := hid (fun W f => by
      have hb := HB0.keep f (fun h => h)
      exact ⟨hb.cell 0 rfl, hb.cell 1 rfl, hb.cell 2 rfl, hb.cell 3 rfl⟩)
    cases hok : okF s l r with
    | false =>
      rw [hok] at HMY
      go_enter Try.func12, Try.ntmps12
      go_wp2_with fail
      generalize (w.alloc (.cells #[.int .i64 s, .int .i64 l, .int .i64 r, .slice ao n cap] 24)) = w1 at *
      generalize w.heap.size = p at *
      obtain ⟨p0, p1, p2, p3⟩ := PS.out _ (Fr.refl _ _)
      go_wp2_with fail
      with_reducible refine (HMY.out _ HN5.out).mono ?_
      rintro e w2 ⟨rfl, f2⟩
      go_wp2_with fail
      go_ret2
      exact isPack_nil (HF0.out.trans f2)
    | true =>
      rw [hok] at HMY
      simp only [if_true]
      obtain ⟨⟨s1, s2⟩, ⟨l1, l2⟩, r1, r2⟩ := (okF_iff s l r).1 hok
      have HBD := hid (And.intro (And.intro s1 (Int.le_trans s2 (by decide : (8 : Int) ≤ 9007199254740991))) (And.intro (And.intro l1 l2) (And.intro r1 r2)))
      have HBY := hid (fmB_byte hok HAB.out (by rw [← HN.out]; exact HN5.out))
      have HLN := hid (fmB_len s l r bs)
      have HFB : Hid (fmB s l r bs = ((vb s.toNat ++ vb l.toNat) ++ vb r.toNat) ++ vb bs.length ++ bs) := hid rfl
      generalize fmB s l r bs = FB at *
      clear s1 s2 l1 l2 r1 r2 hok
      go_enter Try.func12, Try.ntmps12
      go_wp2_with fail
      generalize hw1 : (w.alloc (.cells #[.int .i64 s, .int .i64 l, .int .i64 r, .slice ao n cap] 24)) = w1 at *
      have hsz : w.heap.size ≤ w.heap.size := Nat.le_refl _
      generalize hp : w.heap.size = p at *
      clear hw1 hsz
      obtain ⟨p0, p1, p2, p3⟩ := PS.out _ (Fr.refl _ _)
      go_wp2_with fail
      with_reducible refine (HMY.out _ HN5.out).mono ?_
      rintro e w2 ⟨rfl, f2⟩
      have HF2 := hid (HF0.out.trans f2)
      have PS2 := hid (fun W (f : Fr (fun _ => False) w2 W) => PS.out W (f2.trans f))
      clear f2 p0 p1 p2 p3 PS HF0 HMY
      go_wp2_with fail
      with_reducible refine (rwrite_any w2).mono ?_
      rintro e w3 ⟨g, rfl, hW, f3, hg⟩
      have HW : Hid (PQ w2 w3 g (.slice none 0 0) []) := hid ⟨hW, f3, hg, fun k hk => by simp [footOf, Value.ownBlock] at hk⟩
      clear hW f3 hg
      obtain ⟨p0, p1, p2, p3⟩ := PS2.out _ HW.out.fr
      go_wp2_with fail
      with_reducible refine (rwput_i s w3 HW.out.ws (by have h1 := @vb_most s.toNat; have h2 := @vb_most l.toNat; simp only [List.length_append, List.length_nil]; omega) HBD.out.1.1 HBD.out.1.2).mono ?_
      rintro e wa ⟨v5, rfl, hs5, f5, g5⟩
      have HW5 := hid (HW.out.step hs5 f5 g5)
      clear HW
      have HW := HW5
      clear hs5 f5 g5 p0 p1 p2 p3 HW5
      obtain ⟨p0, p1, p2, p3⟩ := PS2.out _ HW.out.fr
      go_wp2_with fail
      with_reducible refine (rwput_i l wa HW.out.ws (by have h1 := @vb_most s.toNat; have h2 := @vb_most l.toNat; simp only [List.length_append, List.length_nil]; omega) HBD.out.2.1.1 HBD.out.2.1.2).mono ?_
      rintro e wb ⟨v5, rfl, hs5, f5, g5⟩
      have HW5 := hid (HW.out.step hs5 f5 g5)
      clear HW
      have HW := HW5
      clear hs5 f5 g5 p0 p1 p2 p3 HW5
      obtain ⟨p0, p1, p2, p3⟩ := PS2.out _ HW.out.fr
      go_wp2_with fail
      with_reducible refine (rwput_i r wb HW.out.ws (by have h1 := @vb_most s.toNat; have h2 := @vb_most l.toNat; simp only [List.length_append, List.length_nil]; omega) HBD.out.2.2.1 HBD.out.2.2.2).mono ?_
      rintro e wr ⟨v5, rfl, hs5, f5, g5⟩
      have HW5 := hid (HW.out.step hs5 f5 g5)
      clear HW
      have HW := HW5
      clear hs5 f5 g5 p0 p1 p2 p3 HW5
      obtain ⟨v, hv5⟩ : ∃ v, v = v5 := ⟨_, rfl⟩
      rw [← hv5] at HW
      clear hv5
      obtain ⟨p0, p1, p2, p3⟩ := PS2.out _ HW.out.fr
      clear p0 p1 p2
      rw [List.nil_append] at HW
      go_wp2_with fail
      have HAPB : Hid (bs ≠ [] → ∀ k, k ∈ footOf (.slice ao n cap) → k ≠ g ∧ k ∉ footOf v) := hid (fun hne k hk => by
        have h1 := HV.out.live hne k hk
        have h2 := HF2.out.size
        exact ⟨by have := HW.out.lo; omega, fun h => by have := HW.out.av k h; omega⟩)
      with_reducible refine (rwoctets_any wr HW.out.ws (by have h1 := @vb_most s.toNat; have h2 := @vb_most l.toNat; have h3 := @vb_most r.toNat; simp only [List.length_append]; omega) (HV.out.keep0 (HF2.out.trans HW.out.fr)) HAPB.out (by have := HLN.out; rw [HFB.out] at this; have h5 := HN5.out; rw [HN.out] at h5; simp only [List.length_append] at this ⊢; omega) (by have h5 := HN5.out; rw [HN.out] at h5; omega)).mono ?_
      rintro e w6 ⟨v6, rfl, hW6, f6, g6⟩
      have HW6 := hid (HW.out.step hW6 f6 g6)
      rw [← HFB.out] at HW6
      clear hW6 f6 g6 p3 HW HAPB
      go_wp2_with fail
      with_reducible refine (rwbytes_any w6 HW6.out.ws (by have := HLN.out; have h5 := HN5.out; rw [HN.out] at h5; omega)).mono ?_
      rintro e w7 ⟨v7, rfl, hr7, f7, ha7⟩
      have HF7 := hid (HF2.out.trans (HW6.out.fr.trans f7))
      have HV7 := hid (Vw.of_row hr7)
      clear hr7 f7 ha7 HW6
      go_wp2_with fail
      with_reducible refine (rseal_any v7 FB w7 HV7.out HBY.out (by have := HLN.out; have h5 := HN5.out; rw [HN.out] at h5; omega)).mono ?_
      rintro e w8 ⟨v8, rfl, hr8, f8, ha8⟩
      obtain ⟨a8, c8, rfl⟩ := row_shape hr8
      have HR8 := hid hr8
      have HA8 := hid ha8
      have HF8 := hid (HF7.out.trans f8)
      clear hr8 ha8 f8 HV7
      obtain ⟨n8, hn8⟩ : ∃ n8, n8 = FB.length + 4 := ⟨_, rfl⟩
      have HN8 := hid hn8
      rw [← hn8] at HR8 HA8 ⊢
      clear hn8
      go_wp2_with fail
      go_ret2
      exact ⟨_, rfl, by have h1 := HR8.out; rw [HN8.out, ← sealed_len FB] at h1 ⊢; exact h1, HF8.out, fun k hk => Nat.le_trans HF7.out.size (HA8.out k hk)⟩
end Go.Proofs.Ytalbncnhmofgaaa
