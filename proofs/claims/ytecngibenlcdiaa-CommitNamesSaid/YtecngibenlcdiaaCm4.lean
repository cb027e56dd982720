/-
  WHAT Kin OF commit ANSWERS. Conditions: none.
-/
import Derived.Test.YtecngibenlcdiaaCm3
namespace Go.Proofs.Ytecngibenlcdiaa
open Go.RowKit Go.ChangeShapes Go.WideShapes Go.Deep

theorem okC_head' {c : Cm} (h : okC c = true) : okHead c = true := by unfold okC at h; simp only [Bool.and_eq_true] at h; exact h.1
theorem okC_at' {c : Cm} (h : okC c = true) {i : Nat} (hi : i < c.L.length) : okAt c i = true := by
  unfold okC at h; simp only [Bool.and_eq_true] at h
  exact List.all_eq_true.1 h.2 i (List.mem_range.2 hi)
structure HeadIs (c : Cm) : Prop where
  len : (mem c).length ≠ 0
  ring : okR c.s c.r = true
  rep : c.r = (mem c).getD 0 0
  hop0 : 1 ≤ c.h
  hop1 : c.h ≤ 2 * (mem c).length
  ents : (c.L.length : Int) = if ((mem c).length : Int) < c.h then ((mem c).length : Int) else c.h
theorem okHead_iff (c : Cm) : okHead c = true ↔ HeadIs c := by
  unfold okHead
  simp only [Bool.and_eq_true, decide_eq_true_eq, inV_iff]
  constructor
  · rintro ⟨⟨⟨⟨h1, h2⟩, h3⟩, h4, h5⟩, h6⟩; exact ⟨h1, h2, h3, h4, h5, h6⟩
  · rintro ⟨h1, h2, h3, h4, h5, h6⟩; exact ⟨⟨⟨⟨h1, h2⟩, h3⟩, h4, h5⟩, h6⟩
theorem okC_le {c : Cm} (h : okC c = true) : c.L.length ≤ (mem c).length := by
  have := ((okHead_iff c).1 (okC_head' h)).ents
  split at this <;> omega
theorem okC_mem {c : Cm} (h : okC c = true) : chkV c.m = false := by
  cases hc : chkV c.m with
  | false => rfl
  | true =>
    have := ((okHead_iff c).1 (okC_head' h)).len
    unfold mem at this
    rw [hc] at this
    exact absurd rfl this
theorem okC_node {c : Cm} (h : okC c = true) {i : Nat} (hi : i < c.L.length) : (c.L.getD i ez).n = (mem c).getD i 0 ∧ 1 ≤ (c.L.getD i ez).n ∧ (c.L.getD i ez).n ≤ 8 ∧ okE (c.L.getD i ez) = true := by
  have h1 := okC_at' h hi
  unfold okAt at h1
  simp only [Bool.and_eq_true, decide_eq_true_eq] at h1
  have hl := okC_le h
  have hm : (mem c).getD i 0 ∈ mem c := by
    rw [getD_of (show i < (mem c).length by omega)]
    exact List.getElem_mem _
  have hin : ∀ z ∈ mem c, 1 ≤ z ∧ z ≤ 8 := by
    intro z hz
    unfold mem at hz
    rw [okC_mem h] at hz
    exact lst_in c.m 8 (by omega) z hz
  have := hin _ hm
  exact ⟨h1.1, by rw [h1.1]; exact this.1, by rw [h1.1]; exact this.2, h1.2⟩
structure EntIs (e : Ent) : Prop where
  ring : okR e.s e.r = true
  h0 : 0 ≤ e.h
  h1 : e.h ≤ 9007199254740991
  a0 : 0 ≤ e.a
  a1 : e.a ≤ e.h
  c0 : 0 ≤ e.c
  c1 : e.c ≤ 9007199254740991
theorem okE_iff (e : Ent) : okE e = true ↔ EntIs e := by
  unfold okE
  simp only [Bool.and_eq_true, inV_iff]
  constructor
  · rintro ⟨⟨⟨h1, h2, h3⟩, h4, h5⟩, h6, h7⟩; exact ⟨h1, h2, h3, h4, h5, h6, h7⟩
  · rintro ⟨h1, h2, h3, h4, h5, h6, h7⟩; exact ⟨⟨⟨h1, h2, h3⟩, h4, h5⟩, h6, h7⟩

/-! ### kin -/
def kst (os oq : Int) (k : Nat × Int × Int) (e : Ent) : Nat × Int × Int :=
  if e.s = os ∧ e.r = oq then (k.1 ||| 2 ^ e.n.toNat, (if e.a < (if k.1 = 0 then e.a else k.2.1) then e.a else (if k.1 = 0 then e.a else k.2.1)), (if k.2.2 < e.h then e.h else k.2.2)) else k
def kin (os oq : Int) (l : List Ent) : Nat × Int × Int := l.foldl (kst os oq) (0, 0, 0)
def kinV (c : Cm) (os oq : Int) : Nat × Int × Int := if okC c then kin os oq c.L else (0, 0, 0)
theorem kin_take (os oq : Int) (L : List Ent) (k : Nat) (hk : k < L.length) : kin os oq (L.take (k + 1)) = kst os oq (kin os oq (L.take k)) (L.getD k ez) := by
  unfold kin
  rw [List.take_succ_eq_append_getElem hk, List.foldl_append]
  simp [List.getD_eq_getElem?_getD, hk]
theorem kin_lt {os oq : Int} {L : List Ent} (h : ∀ e ∈ L, 1 ≤ e.n ∧ e.n ≤ 8) : (kin os oq L).1 < 512 := by
  unfold kin
  have : ∀ (l : List Ent) (k : Nat × Int × Int), k.1 < 512 → (∀ e ∈ l, 1 ≤ e.n ∧ e.n ≤ 8) → (l.foldl (kst os oq) k).1 < 512 := by
    intro l
    induction l with
    | nil => intro k h _; exact h
    | cons e r ih =>
      intro k hk hl
      refine ih _ ?_ (fun x hx => hl x (List.mem_cons_of_mem _ hx))
      obtain ⟨h1, h2⟩ := hl e List.mem_cons_self
      unfold kst
      split
      · exact Nat.or_lt_two_pow (n := 9) hk (two_pow_512 h1 h2)
      · exact hk
  exact this L _ (by decide) h

set_option linter.unusedSimpArgs false
set_option maxRecDepth 100000 in
set_option maxHeartbeats 1000000 in
theorem kin_any (c : Cm) (v : Value) (os oq : Int) (w : World) (hv : IsEs w v c.L) : Calls Try.prog 21 #[cv c v, .agg #[.int .i64 os, .int .i64 oq]] w fun e w' => e = .returned (.tuple #[.int .i64 ((kinV c os oq).1 : Int), .int .i64 (kinV c os oq).2.1, .int .i64 (kinV c os oq).2.2]) ∧ Fr (fun _ => False) w w' := by
  obtain ⟨ao, cap, rfl, hl1, hl2⟩ := hv.len
  have HC := hid (fun W (f : Fr (fun _ => False) w W) => ccheck_any c (.slice ao c.L.length cap) W (hv.keep0 f))
  have HV := hid hv
  clear hv
  unfold kinV
  cases hok : okC c with
  | false =>
    rw [hok] at HC
    obtain ⟨s, r, m, h, L⟩ := c
    simp only [cv] at *
    go_enter Try.func21, Try.ntmps21
    go_wp2_with fail
    refine (HC.out _ (((Fr.refl _ _).alloc _).alloc _)).mono ?_
    rintro e w2 ⟨rfl, f2⟩
    go_wp2_with fail
    go_ret3
    exact ⟨rfl, (((Fr.refl _ _).alloc _).alloc _).trans f2⟩
  | true =>
    rw [hok] at HC
    have hen := hid (fun i => okC_node (i := i) hok)
    have hle := okC_le hok
    have hl8 := mem_len c
    have HLT : Hid (∀ k, (kin os oq (c.L.take k)).1 < 512) := hid (fun k => kin_lt (fun e he => by
      obtain ⟨i, hi, rfl⟩ := List.mem_iff_getElem.1 (List.mem_of_mem_take he)
      have := hen.out i hi
      simp only [List.getD_eq_getElem?_getD, List.getElem?_eq_getElem hi, Option.getD_some] at this
      exact ⟨this.2.1, this.2.2.1⟩))
    obtain ⟨K, hK⟩ : ∃ K : Nat → Nat × Int × Int, K = fun k => kin os oq (c.L.take k) := ⟨_, rfl⟩
    have HLT2 : Hid (∀ k, (K k).1 < 512) := hid (fun k => by rw [hK]; exact HLT.out k)
    have HST : Hid (∀ k, k < c.L.length → K (k + 1) = kst os oq (K k) (c.L.getD k ez)) := hid (fun k hk => by rw [hK]; exact kin_take os oq c.L k hk)
    have HK0 : Hid (K 0 = (0, 0, 0)) := hid (by rw [hK]; rfl)
    have HKN : Hid (K c.L.length = kin os oq c.L) := hid (by rw [hK]; simp)
    simp only [if_true]
    rw [← HKN.out]
    have hN8 : c.L.length ≤ 100 := by omega
    clear hK HLT HKN hok hle hl8
    obtain ⟨s, r, m, h, L⟩ := c
    simp only [cv] at *
    obtain ⟨N, hN⟩ : ∃ N, N = L.length := ⟨_, rfl⟩
    rw [← hN] at HC HST hN8 hl1 ⊢
    have HNN := hid hN
    clear hN
    obtain ⟨B1, B2, f1⟩ := blk2 w #[.int .i64 s, .int .i64 r, .int .i64 m, .int .i64 h, .slice ao N cap] #[.int .i64 os, .int .i64 oq] 26 23
    go_enter Try.func21, Try.ntmps21
    go_wp2_with fail
    generalize (w.alloc (.cells #[.int .i64 s, .int .i64 r, .int .i64 m, .int .i64 h, .slice ao N cap] 26)).alloc (.cells #[.int .i64 os, .int .i64 oq] 23) = w1 at *
    generalize w.heap.size + 1 = q at *
    generalize w.heap.size = p at *
    refine (HC.out _ f1).mono ?_
    rintro e w2 ⟨rfl, f2⟩
    have HQ := hid (B2.keep f2 (fun h => h))
    have HF2 := hid (f1.trans f2)
    have p4 : w2.cell? ⟨p, 4, none⟩ = some (.slice ao N cap) := (B1.keep f2 (fun h => h)).cell 4 rfl
    clear f1 f2 B1 B2 HC
    go_wp2_with fail
    clear p4
    go_loopw [4, 5, 6, 8, 15] (fun mb lo hi _ i wr => ∃ k : Nat, k ≤ N ∧ i = .int .i64 k ∧ mb = .int .i64 ((K k).1 : Int) ∧ lo = .int .i64 (K k).2.1 ∧ hi = .int .i64 (K k).2.2 ∧ Fr (fun _ => False) w2 wr) (fun _ _ _ _ i _ => N - (intOf i).toNat)
    case atStart => exact ⟨0, Nat.zero_le _, rfl, by rw [HK0.out]; rfl, by rw [HK0.out], by rw [HK0.out], Fr.refl _ _⟩
    case round =>
      obtain ⟨k, hk, rfl, rfl, rfl, rfl, hf⟩ := hrel
      by_cases hlt : k < N
      · obtain ⟨b, off, rfl, hb, q0, q1, q2, q3, q4, q5⟩ := ((HV.out.keep0 HF2.out).keep0 hf).at (i := k) (by rw [← HNN.out]; exact hlt)
        have HE := hen.out k (by rw [← HNN.out]; exact hlt)
        have HS := HST.out k hlt
        have hklt := HLT2.out k
        have HZQ := hid (HQ.out.keep hf (fun h => h))
        have r0 := HZQ.out.cell 0 rfl
        have r1 := HZQ.out.cell 1 rfl
        generalize L.getD k ez = x at *
        obtain ⟨xn, xs, xr, xa, xh, xc⟩ := x
        obtain ⟨⟨M, lo, hi⟩, hkk⟩ : ∃ t, t = K k := ⟨_, rfl⟩
        rw [← hkk] at HS hklt ⊢
        simp only at hklt
        have HEN := hid HE
        have HSS := hid HS
        clear HE HS hkk
        go_wp2_with (refine wpList_new rfl 28 rfl #[.int .i64 0, .int .i64 0, .int .i64 0, .int .i64 0, .int .i64 0, .int .i64 0] zeroEnt ?_)
        intro z w5 hz B5 f5 z5
        have hz2 : w2.heap.size ≤ z := by rw [hz]; exact hf.size
        clear hz z5
        go_wp2_with (refine wpList_store_part rfl 28 _ _ rfl aggEnt z 0 rfl B5 (.agg #[.int .i64 xn, .int .i64 xs, .int .i64 xr, .int .i64 xa, .int .i64 xh, .int .i64 xc]) rfl rfl (Ent.one ⟨xn, xs, xr, xa, xh, xc⟩) (by decide) #[.int .i64 xn, .int .i64 xs, .int .i64 xr, .int .i64 xa, .int .i64 xh, .int .i64 xc] rfl ?_)
        intro w6 B6 f6 z6
        have HF6 := hid ((hf.trans f5).into f6 hz2)
        have HB6 := hid B6
        have hQ6 := HQ.out.keep HF6.out (fun h => h)
        have r0 := hQ6.cell 0 rfl
        have r1 := hQ6.cell 1 rfl
        have z0 := B6.cell 0 rfl
        have z1 := B6.cell 1 rfl
        have z2 := B6.cell 2 rfl
        have z3 := B6.cell 3 rfl
        have z4 := B6.cell 4 rfl
        clear B5 f5 f6 z6 hz2 q0 q1 q2 q3 q4 q5 hf B6 hb hQ6
        by_cases hr : xs = os ∧ xr = oq
        · have he : ∀ W, (binOp .neq 23 (.agg #[.int .i64 xs, .int .i64 xr]) (.agg #[.int .i64 os, .int .i64 oq])).run Try.prog W = .ok (.bool false) W := fun W => by rw [run_neq_ring, hr.1, hr.2]; simp
          have HS2 : Hid (K (k + 1) = (M ||| 2 ^ xn.toNat, (if xa < (if M = 0 then xa else lo) then xa else (if M = 0 then xa else lo)), (if hi < xh then xh else hi))) := hid (by rw [HSS.out]; unfold kst; rw [if_pos hr])
          clear hr
          obtain ⟨hq9, hn1, hn8, hq10⟩ := HEN.out
          (try simp only at hn1 hn8)
          clear hq9 hq10
          have hsh := shl64 xn.toNat (by omega)
          have hp := two_pow_512 hn1 hn8
          have hor := i64_or_nat M (2 ^ xn.toNat) (by omega) (by omega)
          obtain ⟨y, hy⟩ : ∃ y, y = 2 ^ xn.toNat := ⟨_, rfl⟩
          obtain ⟨o, ho⟩ : ∃ o, o = M ||| y := ⟨_, rfl⟩
          rw [← hy] at hsh hor HS2
          rw [← ho] at hor HS2
          obtain ⟨mx, hmx⟩ : ∃ mx, (if hi < xh then xh else hi) = mx := ⟨_, rfl⟩
          rw [hmx] at HS2
          clear hp hy ho
          by_cases hM : M = 0
          · have HS3 : Hid (K (k + 1) = (o, xa, mx)) := hid (by rw [HS2.out, if_pos hM]; simp)
            have hm0 : decide ((M : Int) = 0) = true := by simp [hM]
            have hm1 : ((M : Int) == 0) = true := by simp [hM]
            clear HS2 HSS hM
            go_wp2_with fail
            go_region
            all_goals go_wp2_with fail
            all_goals
              go_roundw
              case rel => exact ⟨k + 1, by omega, by go_num, by rw [HS3.out], by rw [HS3.out], by rw [HS3.out], by first | exact HF6.out.drew | exact HF6.out⟩
              case measure => simp [intOf]; omega
          · have HS3 : Hid (K (k + 1) = (o, (if xa < lo then xa else lo), mx)) := hid (by rw [HS2.out, if_neg hM])
            obtain ⟨mn, hmn⟩ : ∃ mn, (if xa < lo then xa else lo) = mn := ⟨_, rfl⟩
            rw [hmn] at HS3
            have hm0 : decide ((M : Int) = 0) = false := by simp [hM]
            have hm1 : ((M : Int) == 0) = false := by simp [hM]
            clear HS2 HSS hM
            go_wp2_with fail
            go_region
            all_goals go_wp2_with fail
            all_goals
              go_roundw
              case rel => exact ⟨k + 1, by omega, by go_num, by rw [HS3.out], by rw [HS3.out], by rw [HS3.out], by first | exact HF6.out.drew | exact HF6.out⟩
              case measure => simp [intOf]; omega
        · have he : ∀ W, (binOp .neq 23 (.agg #[.int .i64 xs, .int .i64 xr]) (.agg #[.int .i64 os, .int .i64 oq])).run Try.prog W = .ok (.bool true) W := fun W => by
            rw [run_neq_ring]
            congr 2
            simp only [Bool.not_eq_true', Bool.and_eq_false_iff, decide_eq_false_iff_not]
            omega
          have HS2 : Hid (K (k + 1) = (M, lo, hi)) := hid (by rw [HSS.out]; unfold kst; rw [if_neg hr])
          clear hr
          go_wp2_with fail
          go_roundw
          case rel => exact ⟨k + 1, by omega, by go_num, by rw [HS2.out], by rw [HS2.out], by rw [HS2.out], by first | exact HF6.out.drew | exact HF6.out⟩
          case measure => simp [intOf]; omega
      · have hkN : k = N := by omega
        subst hkN
        go_wp2_with fail
        go_ret3
        exact ⟨rfl, HF2.out.trans hf⟩
end Go.Proofs.Ytecngibenlcdiaa
