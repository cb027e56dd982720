/-
  THE WALK OF OrderWhole. Conditions: none.
-/
import Derived.Test.YtclaggjlacinlaaMore
namespace Go.Proofs.Ytclaggjlacinlaa
open Go.RowKit
set_option linter.unusedSimpArgs false

def kcells (kf : Nat → Int) : Array Value := Array.ofFn fun i : Fin 52 => Value.int .i64 (kf i.1)
theorem kc_get (kf : Nat → Int) (i : Nat) (h : i < 52) : (kcells kf)[i]? = some (.int .i64 (kf i)) := by
  unfold kcells
  rw [Array.getElem?_eq_getElem (by simpa using h)]
  simp
theorem kc_set (kf : Nat → Int) (i : Nat) (v : Int) : (kcells kf).setIfInBounds i (.int .i64 v) = kcells (fun j => if j = i then v else kf j) := by
  apply Array.ext
  · simp [kcells]
  · intro j h1 h2
    simp only [kcells]
    rw [Array.getElem_setIfInBounds (by simpa [kcells] using h1)]
    simp only [Array.getElem_ofFn]
    by_cases h : i = j
    · subst h; simp
    · simp [h, Ne.symm h]
theorem zeroKinds (W : World) : (zeroValue 28).run Try.prog W = .ok (.agg (kcells fun _ => 0)) W := by kernel_rfl
def kOf : Option (Int × Bool) → Int
  | none => 0
  | some (kd, s) => if kd = 5 then 3 else if s then 2 else 1
theorem whole_cast (e : Nat) : (((e + 1 : Nat) : Int) - 1) = (e : Int) - 1 + 1 := by omega
theorem whole_at {G R : List (Int × (Int × Bool))} {p : Nat} {x : Int × (Int × Bool)} {D : Int} {Y : List (Int × (Int × Bool)) × Int} (h : G.drop p = Y.1) (e : Y = ((if (1 : Int) = 5 then R else x :: R), D)) : p < G.length ∧ G[p]? = some x := by
  subst e
  simp at h
  have h1 : p < G.length := by
    by_cases hp : p < G.length
    · exact hp
    · rw [List.drop_eq_nil_of_le (by omega)] at h; cases h
  rw [List.drop_eq_getElem_cons h1] at h
  injection h with h2 _
  exact ⟨h1, by rw [List.getElem?_eq_getElem h1, h2]⟩
theorem whole_next {M G : List (Int × (Int × Bool))} {p e : Nat} {x : Int × (Int × Bool)} {sf D : Int} {Y : List (Int × (Int × Bool)) × Int} (h : G.drop p = Y.1) (ee : Y = ((if (1 : Int) = 5 then (nxt M sf ((e : Int) - 1 + 1)).1 else x :: (nxt M sf ((e : Int) - 1 + 1)).1), D)) : G.drop (p + 1) = (nxt M sf (((e + 1 : Nat) : Int) - 1)).1 := by
  subst ee
  simp at h
  rw [← List.tail_drop, h, whole_cast]
  simp

set_option maxRecDepth 100000 in
set_option maxHeartbeats 8000000 in
theorem whole_walk (a : Option Addr) (len cap : Nat) (zs : List Int) (w : World) (h : IsRow .i64 w a len cap zs) :
    Calls Try.prog 3 #[.slice a len cap] w fun e w' => e = .returned (.bool true) ∧ Below w.heap.size w w' := by
  have HL := hid h
  have hlen := h.len_le.2
  clear h
  go_enter Try.func3, Try.ntmps3
  go_wp2_with fail
  refine (awake_any w).mono ?_
  rintro e w1 ⟨rfl, f1⟩
  have HF1 := hid f1
  clear f1
  go_wp2_with fail
  refine (winnew_c w1).mono ?_
  rintro e w2 ⟨g, b, rfl, hw2⟩
  have HW2 := hid (hw2.base HF1.out)
  clear hw2 HF1
  go_wp2_with fail
  refine (ordnew_any w2).mono ?_
  rintro e w3 ⟨o, rfl, ho3, f3, hlo3⟩
  have hlo : w.heap.size ≤ o := Nat.le_trans HW2.out.fr.size hlo3
  have HW3 := hid (HW2.out.keep f3)
  have HO3 := hid ho3
  clear ho3 f3 hlo3 HW2
  go_wp2_with (refine wpList_new rfl 28 rfl (kcells fun _ => 0) zeroKinds ?_)
  intro K w4 hk4 B4 f4 z4
  have hlk : w.heap.size ≤ K := by rw [hk4]; exact HW3.out.fr.size
  have HW4 := hid (HW3.out.keep f4)
  have HO4 := hid (HO3.out.keep f4 (fun h => h))
  have HK4 := hid B4
  clear hk4 B4 f4 z4 HW3 HO3
  go_wp2_with fail
  go_loopw [5, 7] (fun n i wr => ∃ j e0 : Nat, j ≤ len ∧ j ≤ 150 ∧ i = .int .i64 j ∧ n = .int .i64 e0 ∧ 1 ≤ e0 ∧ e0 ≤ 51 ∧ ∃ M kf, WS w wr g b M ∧ OD wr o ((e0 : Int) - 1) ∧ Blk wr K (kcells kf) 28 ∧ (∀ i, i ≤ 51 → kf i = kOf (wl M (i : Int))) ∧ (∀ x ∈ M, x.1 ≤ 50) ∧ (∀ x ∈ M, x.2.1 = 1 ∨ (x.2.1 = 5 ∧ x.2.2 = false))) (fun _ i _ => len - (intOf i).toNat)
  case atStart => exact ⟨0, 1, by omega, by omega, rfl, rfl, by omega, by omega, [], fun _ => 0, HW4.out, HO4.out, HK4.out, fun i hi => rfl, fun x hx => (by cases hx), fun x hx => (by cases hx)⟩
  case round =>
    clear HW4 HO4 HK4
    obtain ⟨j, e0, hj, hj2, rfl, rfl, he1, he2, M, kf, hw, ho, hk, hkf, hky, hkd⟩ := hrel
    have HW := hid hw
    have HO := hid ho
    have HK := hid hk
    have HKF0 := hid hkf
    have HKY0 := hid hky
    have HKD0 := hid hkd
    clear hw ho hk hkf hky hkd
    by_cases hlt : j < len ∧ j < 150
    · obtain ⟨l1, l2⟩ := hlt
      obtain ⟨bl, off, rfl, hbl, hc⟩ := HL.out.at j l1
      have c0 : wr.cell? ⟨bl, off + j, none⟩ = some (.int .i64 (zs.getD j 0)) := cell_fr HW.out.fr hc
      generalize zs.getD j 0 = z at c0
      have hx := and_mask z
      obtain ⟨X, hX⟩ : ∃ X, bits .and .i64 z 65535 = X := ⟨_, rfl⟩
      rw [hX] at hx
      obtain ⟨hx0, hx1⟩ := hx
      obtain ⟨n, hn⟩ : ∃ n : Nat, 1 + X % 50 = (n : Int) := ⟨(1 + X % 50).toNat, by omega⟩
      have hn1 : 1 ≤ n := by omega
      have hn2 : n ≤ 50 := by omega
      have j0 : (0 : Int) ≤ (j : Int) := by omega
      have j1 : (j : Int) < (len : Int) := by omega
      have j2 : (j : Int) < 150 := by omega
      clear hc hbl
      go_wp2_with fail
      refine (one_any _ _ wr).mono ?_
      rintro e w5 ⟨rfl, f5⟩
      have HW5 := hid (HW.out.keep f5)
      have HO5 := hid (HO.out.keep f5 (fun h => h))
      have HK5 := hid (HK.out.keep f5 (fun h => h))
      clear f5 c0 hX hn HW HO HK
      generalize (bits BinOp.and IntKind.i64 (X / 64) 3 == 0) = s
      go_wp2_with (refine wpList_new rfl 37 rfl #[.int .i64 0, .int .i64 0, .int .i64 0, .int .i64 0, .int .i64 0, .int .i64 0, .int .i64 0, .int .i64 0, .int .i64 0, .int .i64 0, .int .i64 0, .int .i64 0, .bool false, .int .i64 0, .int .i64 0, .int .i64 0, .int .i64 0, .slice none 0 0] zeroData ?_)
      intro x w6 hx B6 f6 z6
      have HW6 := hid (HW5.out.keep f6)
      have HO6 := hid (HO5.out.keep f6 (fun h => h))
      have HK6 := hid (HK5.out.keep f6 (fun h => h))
      have hxl : w5.heap.size = x := hx.symm
      have hxg : ¬ (x = g ∨ x = b) := by
        obtain ⟨_, _, hb, _⟩ := HW5.out.ex
        have := hb.lt; have := HW5.out.map.lt; omega
      have hxo : ¬ x = o := by have := Blk.lt HO5.out; omega
      have hxk : ¬ x = K := by have := HK5.out.lt; omega
      have hxw : w.heap.size ≤ x := by have := HW5.out.fr.size; omega
      have hog := HO5.out.notwin HW5.out
      have hko : ¬ K = o := fun e => by subst e; exact absurd (HK5.out.type HO5.out) (by decide)
      have hkg : ¬ (K = g ∨ K = b) := by
        obtain ⟨_, _, hb, _⟩ := HW5.out.ex
        obtain ⟨es, c, hm, _⟩ := HW5.out.map
        rintro (e | e)
        · subst e; exact absurd (HK5.out.type hb) (by decide)
        · subst e; have hb2 := HK5.out; unfold Blk at hb2; rw [hm] at hb2; simp at hb2
      clear hx f6 z6 HW5 HO5 HK5 hxl
      go_wp2_with (refine wpList_store_part rfl 37 _ _ rfl aggData x 0 rfl B6 (.agg #[.int .i64 1, .int .i64 1, .int .i64 (n : Int), .int .i64 1, .int .i64 0, .int .i64 1, .int .i64 1, .int .i64 1, .int .i64 0, .int .i64 0, .int .i64 1, .int .i64 1, .bool s, .int .i64 0, .int .i64 0, .int .i64 0, .int .i64 0, .slice none 0 0]) rfl rfl (one_dat (n : Int) 1 s) (by decide) #[.int .i64 1, .int .i64 1, .int .i64 (n : Int), .int .i64 1, .int .i64 0, .int .i64 1, .int .i64 1, .int .i64 1, .int .i64 0, .int .i64 0, .int .i64 1, .int .i64 1, .bool s, .int .i64 0, .int .i64 0, .int .i64 0, .int .i64 0, .slice none 0 0] rfl ?_)
      intro wq BDq fq zq
      have HWq := hid (HW6.out.keepS fq (fun e => hxg (.inl e.symm)) (fun e => hxg (.inr e.symm)) (fun k e => by omega))
      have HOq := hid (HO6.out.keep fq (fun e => hxo e.symm))
      have HKq := hid (HK6.out.keep fq (fun e => hxk e.symm))
      have BD := hid BDq
      clear fq zq B6 HW6 HO6 HK6 BDq
      cases hold : (bits BinOp.and IntKind.i64 (X / 256) 3 == 0) with
      | true =>
        as_aux_lemma =>
          go_wp2_with fail
          refine (old_any (n : Int) wq).mono ?_
          rintro _ wr2 ⟨rfl, fr2⟩
          have HW6 := hid (HWq.out.keep fr2)
          have HO6 := hid (HOq.out.keep fr2 (fun h => h))
          have HK6 := hid (HKq.out.keep fr2 (fun h => h))
          have BD6 := BD.out.keep fr2 (fun h => h)
          clear fr2 HWq HOq HKq BD
          go_wp2_with (refine wpList_store_part rfl 37 _ _ rfl aggData x 0 rfl BD6 (.agg #[.int .i64 1, .int .i64 1, .int .i64 (n : Int), .int .i64 1, .int .i64 0, .int .i64 5, .int .i64 1, .int .i64 1, .int .i64 0, .int .i64 0, .int .i64 1, .int .i64 1, .bool false, .int .i64 0, .int .i64 0, .int .i64 0, .int .i64 0, .slice none 0 0]) rfl rfl (one_dat (n : Int) 5 false) (Nat.le_refl 18) #[.int .i64 1, .int .i64 1, .int .i64 (n : Int), .int .i64 1, .int .i64 0, .int .i64 5, .int .i64 1, .int .i64 1, .int .i64 0, .int .i64 0, .int .i64 1, .int .i64 1, .bool false, .int .i64 0, .int .i64 0, .int .i64 0, .int .i64 0, .slice none 0 0] rfl ?_)
          intro wq BDq fq zq
          have HWq := hid (HW6.out.keepS fq (fun e => hxg (.inl e.symm)) (fun e => hxg (.inr e.symm)) (fun k e => by omega))
          have HOq := hid (HO6.out.keep fq (fun e => hxo e.symm))
          have HKq := hid (HK6.out.keep fq (fun e => hxk e.symm))
          have BD := hid BDq
          clear fq zq BD6 HW6 HO6 HK6 BDq
          go_wp2_with (refine wpList_load_part rfl 37 _ rfl aggData x 0 rfl BD.out #[.int .i64 1, .int .i64 1, .int .i64 (n : Int), .int .i64 1, .int .i64 0, .int .i64 5, .int .i64 1, .int .i64 1, .int .i64 0, .int .i64 0, .int .i64 1, .int .i64 1, .bool false, .int .i64 0, .int .i64 0, .int .i64 0, .int .i64 0, .slice none 0 0] rfl rfl ?_)
          cases hq : wl M (n : Int) with
          | some q =>
            obtain ⟨kd', s'⟩ := q
            refine (put_old (n : Int) 5 kd' false s' HWq.out hq).mono ?_
            rintro _ w7 ⟨rfl, hw7, f7⟩
            have HZ : Hid (∃ M' kf', WS w w7 g b M' ∧ OD w7 o ((e0 : Int) - 1) ∧ Blk w7 K (kcells kf') 28 ∧ (∀ i, i ≤ 51 → kf' i = kOf (wl M' (i : Int))) ∧ (∀ x ∈ M', x.1 ≤ 50) ∧ (∀ x ∈ M', x.2.1 = 1 ∨ (x.2.1 = 5 ∧ x.2.2 = false))) := hid
              ⟨M, kf, hw7, HOq.out.keep f7 (fun h => h), HKq.out.keep f7 (fun h => h), HKF0.out, HKY0.out, HKD0.out⟩
            clear hw7 f7 hq HWq HOq HKq BD HKF0 HKY0 HKD0
            obtain ⟨M', kf', hw1, ho1, hk1, hkf, hky, hkd⟩ := HZ.out
            have HW1 := hid hw1
            have HO1 := hid ho1
            have HK1 := hid hk1
            have HKF := hid hkf
            have HKY := hid hky
            have HKD := hid hkd
            clear hw1 ho1 hk1 hkf hky hkd HZ
            obtain ⟨sf, hsf⟩ : ∃ sf, X / 1024 = sf := ⟨_, rfl⟩
            clear hx0 hx1
            go_wp2_with fail
            refine (next_any ((e0 : Int) - 1) sf HW1.out HO1.out hlo (by omega) (by omega)).mono ?_
            rintro _ w8 ⟨v, rfl, hr8, ho8, hw8, f8, _⟩
            obtain ⟨G, hG⟩ : ∃ G, G = (nxt M' sf ((e0 : Int) - 1)).1 := ⟨_, rfl⟩
            obtain ⟨D, hD⟩ : ∃ D, D = (nxt M' sf ((e0 : Int) - 1)).2 := ⟨_, rfl⟩
            rw [← hG] at hr8
            rw [← hD] at ho8
            have HGE := hid hG
            have HDE := hid hD
            obtain ⟨ao, ac, rfl⟩ := rowN_shape hr8
            have HR8 := hid hr8
            have HO2 := hid ho8
            have HW2 := hid hw8
            have HK2 := hid (HK1.out.keep f8 hko)
            have hG1 : G.length ≤ 100000 := by rw [hG]; exact Nat.le_trans (nx_len M' sf (1001 - ((e0 : Int) - 1)).toNat _) (by omega)
            clear hr8 ho8 hw8 f8 hG hD HW1 HO1 HK1 hsf
            go_wp2_with fail
            go_loop [5, 15] (fun n at_ => ∃ e p : Nat, n = .int .i64 e ∧ at_ = .int .i64 p ∧ 1 ≤ e ∧ e ≤ 51 ∧ p ≤ G.length ∧ G.drop p = (nxt M' sf ((e : Int) - 1)).1 ∧ (nxt M' sf ((e : Int) - 1)).2 = D) (fun n _ => (60 - intOf n).toNat)
            case atStart => exact ⟨e0, 0, rfl, rfl, he1, he2, by omega, by rw [List.drop_zero]; exact HGE.out, HDE.out.symm⟩
            case round =>
              clear HGE HDE he1 he2
              obtain ⟨e, p, rfl, rfl, he1, he2, hp, hdr, hdn⟩ := hrel
              have HDR := hid hdr
              have HDN := hid hdn
              clear hdr hdn
              have k0 : (0 : Int) ≤ (e : Int) := by omega
              by_cases h50 : e ≤ 50
              · have k1 : (e : Int) ≤ 50 := by omega
                have k2 : (e : Int) < 52 := by omega
                have hcell : w8.cell? ⟨K, e, none⟩ = some (.int .i64 (kf' e)) := HK2.out.cell e (kc_get kf' e (by omega))
                rw [HKF.out e (by omega)] at hcell
                cases hq : wl M' (e : Int) with
                | none =>
                  rw [hq] at hcell
                  have HE := hid (nxt_none (M := M') (safe := sf) (d := (e : Int) - 1) (by omega) (by rw [Int.sub_add_cancel]; exact hq))
                  clear hq
                  simp only [kOf] at hcell
                  have hat : p = G.length := by
                    have := congrArg List.length HDR.out
                    rw [HE.out] at this
                    simp at this; omega
                  have HDD : Hid (D = (e : Int) - 1) := hid (by rw [← HDN.out, HE.out])
                  clear HE HDR HDN
                  subst hat
                  have hdo := HO2.out
                  rw [HDD.out] at hdo
                  have HO3 := hid hdo
                  clear hdo HO2
                  go_wp2_with fail
                  refine (done_any HO3.out).mono ?_
                  rintro _ wz ⟨rfl, rfl⟩
                  go_wp2_with fail
                  go_roundw
                  case rel => exact ⟨j + 1, e, by omega, by omega, by go_num, rfl, he1, he2, M', kf', HW2.out, HO3.out, HK2.out, HKF.out, HKY.out, HKD.out⟩
                  case measure => simp [intOf]; omega
                | some q =>
                  obtain ⟨kd, s⟩ := q
                  rw [hq] at hcell
                  by_cases hs : s = true ∧ sf < (e : Int)
                  · have HE := hid (nxt_wait (M := M') (safe := sf) (d := (e : Int) - 1) (by omega) (by rw [Int.sub_add_cancel]; exact hq) (by rw [Int.sub_add_cancel]; exact hs))
                    obtain ⟨rfl, hs2⟩ := hs
                    have hk5 : kd = 1 := by
                      rcases HKD.out _ (wl_mem hq) with h | h
                      · exact h
                      · exact absurd h.2 (by simp)
                    subst hk5
                    clear hq
                    simp only [kOf] at hcell
                    have hd1 : decide ((e : Int) ≤ sf) = false := decide_eq_false (by omega)
                    have hat : p = G.length := by
                      have := congrArg List.length HDR.out
                      rw [HE.out] at this
                      simp at this; omega
                    have HDD : Hid (D = (e : Int) - 1) := hid (by rw [← HDN.out, HE.out])
                    clear HE HDR HDN
                    subst hat
                    have hdo := HO2.out
                    rw [HDD.out] at hdo
                    have HO3 := hid hdo
                    clear hdo HO2
                    go_wp2_with fail
                    refine (done_any HO3.out).mono ?_
                    rintro _ wz ⟨rfl, rfl⟩
                    go_wp2_with fail
                    go_roundw
                    case rel => exact ⟨j + 1, e, by omega, by omega, by go_num, rfl, he1, he2, M', kf', HW2.out, HO3.out, HK2.out, HKF.out, HKY.out, HKD.out⟩
                    case measure => simp [intOf]; omega
                  · have HE := hid (nxt_go (M := M') (safe := sf) (d := (e : Int) - 1) (by omega) (by rw [Int.sub_add_cancel]; exact hq) (by rw [Int.sub_add_cancel]; exact hs))
                    have hex : kd = 5 ∨ (kd = 1 ∧ s = false) ∨ (kd = 1 ∧ s = true ∧ (e : Int) ≤ sf) := by
                      rcases HKD.out _ (wl_mem hq) with h | h
                      · cases s with
                        | false => exact .inr (.inl ⟨h, rfl⟩)
                        | true => exact .inr (.inr ⟨h, rfl, by by_cases h2 : (e : Int) ≤ sf; exact h2; exact absurd ⟨rfl, by omega⟩ hs⟩)
                      · exact .inl h.1
                    have HX := hid hq
                    clear hs hq
                    rcases hex with rfl | ⟨rfl, rfl⟩ | ⟨rfl, rfl, hs2⟩
                    · simp only [kOf] at hcell
                      go_wp2_with fail
                      go_round
                      case rel => exact ⟨e + 1, p, by go_num, rfl, by omega, by omega, hp, by rw [HDR.out, HE.out]; simp [whole_cast], by rw [← HDN.out, HE.out]; simp [whole_cast]⟩
                      case measure => simp [intOf]; omega
                    · simp only [kOf] at hcell
                      obtain ⟨hp1, hp2⟩ := whole_at HDR.out HE.out
                      obtain ⟨gb, cb, hab, _, hnc, hcm⟩ := rowN_some HR8.out (by omega)
                      injection hab with e1 e2 e3
                      subst e1; subst e3
                      have hc : w8.cell? ⟨gb, p * 18 + 2, none⟩ = some (.int .i64 ((e : Int) - 1 + 1)) := rowN_cell HR8.out _ _ (flatD_at hp2)
                      rw [Int.sub_add_cancel] at hc
                      have p0 : (0 : Int) ≤ (p : Int) := by omega
                      have p1 : (p : Int) < (G.length : Int) := by omega
                      have p2 : ¬ ((G.length : Int) ≤ (p : Int)) := by omega
                      have HP2 := hid hp2
                      clear hcm hnc hp2
                      go_wp2_with fail
                      go_round
                      case rel => exact ⟨e + 1, p + 1, by go_num, by go_num, by omega, by omega, by omega, whole_next HDR.out HE.out, by rw [← HDN.out, HE.out]; simp [whole_cast]⟩
                      case measure => simp [intOf]; omega
                    · simp only [kOf] at hcell
                      obtain ⟨hp1, hp2⟩ := whole_at HDR.out HE.out
                      obtain ⟨gb, cb, hab, _, hnc, hcm⟩ := rowN_some HR8.out (by omega)
                      injection hab with e1 e2 e3
                      subst e1; subst e3
                      have hc : w8.cell? ⟨gb, p * 18 + 2, none⟩ = some (.int .i64 ((e : Int) - 1 + 1)) := rowN_cell HR8.out _ _ (flatD_at hp2)
                      rw [Int.sub_add_cancel] at hc
                      have p0 : (0 : Int) ≤ (p : Int) := by omega
                      have p1 : (p : Int) < (G.length : Int) := by omega
                      have p2 : ¬ ((G.length : Int) ≤ (p : Int)) := by omega
                      have HP2 := hid hp2
                      clear hcm hnc hp2
                      go_wp2_with fail
                      go_round
                      case rel => exact ⟨e + 1, p + 1, by go_num, by go_num, by omega, by omega, by omega, whole_next HDR.out HE.out, by rw [← HDN.out, HE.out]; simp [whole_cast]⟩
                      case measure => simp [intOf]; omega
              · have k1 : decide ((e : Int) ≤ 50) = false := decide_eq_false (by omega)
                have hq : wl M' (e : Int) = none := by
                  cases hq : wl M' (e : Int) with
                  | none => rfl
                  | some q => have := HKY.out _ (wl_mem hq); simp only at this; omega
                have HE := hid (nxt_none (M := M') (safe := sf) (d := (e : Int) - 1) (by omega) (by rw [Int.sub_add_cancel]; exact hq))
                clear hq
                have hat : p = G.length := by
                  have := congrArg List.length HDR.out
                  rw [HE.out] at this
                  simp at this; omega
                have HDD : Hid (D = (e : Int) - 1) := hid (by rw [← HDN.out, HE.out])
                clear HE HDR HDN
                subst hat
                have hdo := HO2.out
                rw [HDD.out] at hdo
                have HO3 := hid hdo
                clear hdo HO2
                go_wp2_with fail
                refine (done_any HO3.out).mono ?_
                rintro _ wz ⟨rfl, rfl⟩
                go_wp2_with fail
                go_roundw
                case rel => exact ⟨j + 1, e, by omega, by omega, by go_num, rfl, he1, he2, M', kf', HW2.out, HO3.out, HK2.out, HKF.out, HKY.out, HKD.out⟩
                case measure => simp [intOf]; omega
          | none =>
            refine (put_new (n : Int) 5 false HWq.out hq (by omega) (by omega)).mono ?_
            rintro _ w7 ⟨rfl, hw7, f7⟩
            have HW7 := hid hw7
            have HO7 := hid (HOq.out.keep f7 hog)
            have HK7 := hid (HKq.out.keep f7 hkg)
            have HQ := hid hq
            have BD7 := BD.out.keep f7 hxg
            have ck : w7.cell? ⟨K, n, none⟩ = some (.int .i64 (kf n)) := HK7.out.cell n (kc_get kf n (by omega))
            have yk := HK7.out.free n
            have m12 : w7.cell? ⟨x, 12, none⟩ = some (.bool false) := BD7.cell 12 rfl
            have m5 : w7.cell? ⟨x, 5, none⟩ = some (.int .i64 5) := BD7.cell 5 rfl
            have n0 : (0 : Int) ≤ (n : Int) := by omega
            have n1 : (n : Int) < 52 := by omega
            clear hw7 f7 hq HWq HOq HKq BD BD7
            go_upto_region 23 with (fail)
            have HZ : Hid (∃ M' kf', WS w ((w7.setCell ⟨K, n, none⟩ (.int .i64 1)).setCell ⟨K, n, none⟩ (.int .i64 3)) g b M' ∧ OD ((w7.setCell ⟨K, n, none⟩ (.int .i64 1)).setCell ⟨K, n, none⟩ (.int .i64 3)) o ((e0 : Int) - 1) ∧ Blk ((w7.setCell ⟨K, n, none⟩ (.int .i64 1)).setCell ⟨K, n, none⟩ (.int .i64 3)) K (kcells kf') 28 ∧ (∀ i, i ≤ 51 → kf' i = kOf (wl M' (i : Int))) ∧ (∀ x ∈ M', x.1 ≤ 50) ∧ (∀ x ∈ M', x.2.1 = 1 ∨ (x.2.1 = 5 ∧ x.2.2 = false))) := hid
              ⟨M ++ [((n : Int), (5, false))], (fun j => if j = n then 3 else if j = n then 1 else kf j), HW7.out.keepS (((Fr.refl (· = K) w7).set1 n (.int .i64 1)).set1 n (.int .i64 3)) (fun e => hkg (.inl e.symm)) (fun e => hkg (.inr e.symm)) (fun k e => by omega), HO7.out.keep (((Fr.refl (· = K) w7).set1 n (.int .i64 1)).set1 n (.int .i64 3)) (fun e => hko e.symm), ((HK7.out.set' n (.int .i64 1) (kc_set kf n 1)).set' n (.int .i64 3) (kc_set _ n 3)), fun i hi => by
                rw [wl_append]
                by_cases hin : i = n
                · subst hin; rw [HQ.out]; simp [kOf]
                · have hne : ¬ ((n : Int) = (i : Int)) := by omega
                  simp only [if_neg hin, if_neg hne]
                  rw [HKF0.out i hi]
                  cases wl M (i : Int) <;> rfl, fun x hx => by
                  rcases List.mem_append.1 hx with hx | hx
                  · exact HKY0.out x hx
                  · simp at hx; subst hx; show (n : Int) ≤ 50; omega, fun x hx => by
                  rcases List.mem_append.1 hx with hx | hx
                  · exact HKD0.out x hx
                  · simp at hx; subst hx; simp⟩
            clear HW7 HO7 HK7 HQ HKF0 HKY0 HKD0 ck yk m12 m5
            generalize ((w7.setCell ⟨K, n, none⟩ (.int .i64 1)).setCell ⟨K, n, none⟩ (.int .i64 3)) = w9 at *
            obtain ⟨M', kf', hw1, ho1, hk1, hkf, hky, hkd⟩ := HZ.out
            have HW1 := hid hw1
            have HO1 := hid ho1
            have HK1 := hid hk1
            have HKF := hid hkf
            have HKY := hid hky
            have HKD := hid hkd
            clear hw1 ho1 hk1 hkf hky hkd HZ
            obtain ⟨sf, hsf⟩ : ∃ sf, X / 1024 = sf := ⟨_, rfl⟩
            clear hx0 hx1
            go_wp2_with fail
            refine (next_any ((e0 : Int) - 1) sf HW1.out HO1.out hlo (by omega) (by omega)).mono ?_
            rintro _ w8 ⟨v, rfl, hr8, ho8, hw8, f8, _⟩
            obtain ⟨G, hG⟩ : ∃ G, G = (nxt M' sf ((e0 : Int) - 1)).1 := ⟨_, rfl⟩
            obtain ⟨D, hD⟩ : ∃ D, D = (nxt M' sf ((e0 : Int) - 1)).2 := ⟨_, rfl⟩
            rw [← hG] at hr8
            rw [← hD] at ho8
            have HGE := hid hG
            have HDE := hid hD
            obtain ⟨ao, ac, rfl⟩ := rowN_shape hr8
            have HR8 := hid hr8
            have HO2 := hid ho8
            have HW2 := hid hw8
            have HK2 := hid (HK1.out.keep f8 hko)
            have hG1 : G.length ≤ 100000 := by rw [hG]; exact Nat.le_trans (nx_len M' sf (1001 - ((e0 : Int) - 1)).toNat _) (by omega)
            clear hr8 ho8 hw8 f8 hG hD HW1 HO1 HK1 hsf
            go_wp2_with fail
            go_loop [5, 15] (fun n at_ => ∃ e p : Nat, n = .int .i64 e ∧ at_ = .int .i64 p ∧ 1 ≤ e ∧ e ≤ 51 ∧ p ≤ G.length ∧ G.drop p = (nxt M' sf ((e : Int) - 1)).1 ∧ (nxt M' sf ((e : Int) - 1)).2 = D) (fun n _ => (60 - intOf n).toNat)
            case atStart => exact ⟨e0, 0, rfl, rfl, he1, he2, by omega, by rw [List.drop_zero]; exact HGE.out, HDE.out.symm⟩
            case round =>
              clear HGE HDE he1 he2
              obtain ⟨e, p, rfl, rfl, he1, he2, hp, hdr, hdn⟩ := hrel
              have HDR := hid hdr
              have HDN := hid hdn
              clear hdr hdn
              have k0 : (0 : Int) ≤ (e : Int) := by omega
              by_cases h50 : e ≤ 50
              · have k1 : (e : Int) ≤ 50 := by omega
                have k2 : (e : Int) < 52 := by omega
                have hcell : w8.cell? ⟨K, e, none⟩ = some (.int .i64 (kf' e)) := HK2.out.cell e (kc_get kf' e (by omega))
                rw [HKF.out e (by omega)] at hcell
                cases hq : wl M' (e : Int) with
                | none =>
                  rw [hq] at hcell
                  have HE := hid (nxt_none (M := M') (safe := sf) (d := (e : Int) - 1) (by omega) (by rw [Int.sub_add_cancel]; exact hq))
                  clear hq
                  simp only [kOf] at hcell
                  have hat : p = G.length := by
                    have := congrArg List.length HDR.out
                    rw [HE.out] at this
                    simp at this; omega
                  have HDD : Hid (D = (e : Int) - 1) := hid (by rw [← HDN.out, HE.out])
                  clear HE HDR HDN
                  subst hat
                  have hdo := HO2.out
                  rw [HDD.out] at hdo
                  have HO3 := hid hdo
                  clear hdo HO2
                  go_wp2_with fail
                  refine (done_any HO3.out).mono ?_
                  rintro _ wz ⟨rfl, rfl⟩
                  go_wp2_with fail
                  go_roundw
                  case rel => exact ⟨j + 1, e, by omega, by omega, by go_num, rfl, he1, he2, M', kf', HW2.out, HO3.out, HK2.out, HKF.out, HKY.out, HKD.out⟩
                  case measure => simp [intOf]; omega
                | some q =>
                  obtain ⟨kd, s⟩ := q
                  rw [hq] at hcell
                  by_cases hs : s = true ∧ sf < (e : Int)
                  · have HE := hid (nxt_wait (M := M') (safe := sf) (d := (e : Int) - 1) (by omega) (by rw [Int.sub_add_cancel]; exact hq) (by rw [Int.sub_add_cancel]; exact hs))
                    obtain ⟨rfl, hs2⟩ := hs
                    have hk5 : kd = 1 := by
                      rcases HKD.out _ (wl_mem hq) with h | h
                      · exact h
                      · exact absurd h.2 (by simp)
                    subst hk5
                    clear hq
                    simp only [kOf] at hcell
                    have hd1 : decide ((e : Int) ≤ sf) = false := decide_eq_false (by omega)
                    have hat : p = G.length := by
                      have := congrArg List.length HDR.out
                      rw [HE.out] at this
                      simp at this; omega
                    have HDD : Hid (D = (e : Int) - 1) := hid (by rw [← HDN.out, HE.out])
                    clear HE HDR HDN
                    subst hat
                    have hdo := HO2.out
                    rw [HDD.out] at hdo
                    have HO3 := hid hdo
                    clear hdo HO2
                    go_wp2_with fail
                    refine (done_any HO3.out).mono ?_
                    rintro _ wz ⟨rfl, rfl⟩
                    go_wp2_with fail
                    go_roundw
                    case rel => exact ⟨j + 1, e, by omega, by omega, by go_num, rfl, he1, he2, M', kf', HW2.out, HO3.out, HK2.out, HKF.out, HKY.out, HKD.out⟩
                    case measure => simp [intOf]; omega
                  · have HE := hid (nxt_go (M := M') (safe := sf) (d := (e : Int) - 1) (by omega) (by rw [Int.sub_add_cancel]; exact hq) (by rw [Int.sub_add_cancel]; exact hs))
                    have hex : kd = 5 ∨ (kd = 1 ∧ s = false) ∨ (kd = 1 ∧ s = true ∧ (e : Int) ≤ sf) := by
                      rcases HKD.out _ (wl_mem hq) with h | h
                      · cases s with
                        | false => exact .inr (.inl ⟨h, rfl⟩)
                        | true => exact .inr (.inr ⟨h, rfl, by by_cases h2 : (e : Int) ≤ sf; exact h2; exact absurd ⟨rfl, by omega⟩ hs⟩)
                      · exact .inl h.1
                    have HX := hid hq
                    clear hs hq
                    rcases hex with rfl | ⟨rfl, rfl⟩ | ⟨rfl, rfl, hs2⟩
                    · simp only [kOf] at hcell
                      go_wp2_with fail
                      go_round
                      case rel => exact ⟨e + 1, p, by go_num, rfl, by omega, by omega, hp, by rw [HDR.out, HE.out]; simp [whole_cast], by rw [← HDN.out, HE.out]; simp [whole_cast]⟩
                      case measure => simp [intOf]; omega
                    · simp only [kOf] at hcell
                      obtain ⟨hp1, hp2⟩ := whole_at HDR.out HE.out
                      obtain ⟨gb, cb, hab, _, hnc, hcm⟩ := rowN_some HR8.out (by omega)
                      injection hab with e1 e2 e3
                      subst e1; subst e3
                      have hc : w8.cell? ⟨gb, p * 18 + 2, none⟩ = some (.int .i64 ((e : Int) - 1 + 1)) := rowN_cell HR8.out _ _ (flatD_at hp2)
                      rw [Int.sub_add_cancel] at hc
                      have p0 : (0 : Int) ≤ (p : Int) := by omega
                      have p1 : (p : Int) < (G.length : Int) := by omega
                      have p2 : ¬ ((G.length : Int) ≤ (p : Int)) := by omega
                      have HP2 := hid hp2
                      clear hcm hnc hp2
                      go_wp2_with fail
                      go_round
                      case rel => exact ⟨e + 1, p + 1, by go_num, by go_num, by omega, by omega, by omega, whole_next HDR.out HE.out, by rw [← HDN.out, HE.out]; simp [whole_cast]⟩
                      case measure => simp [intOf]; omega
                    · simp only [kOf] at hcell
                      obtain ⟨hp1, hp2⟩ := whole_at HDR.out HE.out
                      obtain ⟨gb, cb, hab, _, hnc, hcm⟩ := rowN_some HR8.out (by omega)
                      injection hab with e1 e2 e3
                      subst e1; subst e3
                      have hc : w8.cell? ⟨gb, p * 18 + 2, none⟩ = some (.int .i64 ((e : Int) - 1 + 1)) := rowN_cell HR8.out _ _ (flatD_at hp2)
                      rw [Int.sub_add_cancel] at hc
                      have p0 : (0 : Int) ≤ (p : Int) := by omega
                      have p1 : (p : Int) < (G.length : Int) := by omega
                      have p2 : ¬ ((G.length : Int) ≤ (p : Int)) := by omega
                      have HP2 := hid hp2
                      clear hcm hnc hp2
                      go_wp2_with fail
                      go_round
                      case rel => exact ⟨e + 1, p + 1, by go_num, by go_num, by omega, by omega, by omega, whole_next HDR.out HE.out, by rw [← HDN.out, HE.out]; simp [whole_cast]⟩
                      case measure => simp [intOf]; omega
              · have k1 : decide ((e : Int) ≤ 50) = false := decide_eq_false (by omega)
                have hq : wl M' (e : Int) = none := by
                  cases hq : wl M' (e : Int) with
                  | none => rfl
                  | some q => have := HKY.out _ (wl_mem hq); simp only at this; omega
                have HE := hid (nxt_none (M := M') (safe := sf) (d := (e : Int) - 1) (by omega) (by rw [Int.sub_add_cancel]; exact hq))
                clear hq
                have hat : p = G.length := by
                  have := congrArg List.length HDR.out
                  rw [HE.out] at this
                  simp at this; omega
                have HDD : Hid (D = (e : Int) - 1) := hid (by rw [← HDN.out, HE.out])
                clear HE HDR HDN
                subst hat
                have hdo := HO2.out
                rw [HDD.out] at hdo
                have HO3 := hid hdo
                clear hdo HO2
                go_wp2_with fail
                refine (done_any HO3.out).mono ?_
                rintro _ wz ⟨rfl, rfl⟩
                go_wp2_with fail
                go_roundw
                case rel => exact ⟨j + 1, e, by omega, by omega, by go_num, rfl, he1, he2, M', kf', HW2.out, HO3.out, HK2.out, HKF.out, HKY.out, HKD.out⟩
                case measure => simp [intOf]; omega
      | false =>
        as_aux_lemma =>
          skip
          go_wp2_with (refine wpList_load_part rfl 37 _ rfl aggData x 0 rfl BD.out #[.int .i64 1, .int .i64 1, .int .i64 (n : Int), .int .i64 1, .int .i64 0, .int .i64 1, .int .i64 1, .int .i64 1, .int .i64 0, .int .i64 0, .int .i64 1, .int .i64 1, .bool s, .int .i64 0, .int .i64 0, .int .i64 0, .int .i64 0, .slice none 0 0] rfl rfl ?_)
          cases hq : wl M (n : Int) with
          | some q =>
            obtain ⟨kd', s'⟩ := q
            refine (put_old (n : Int) 1 kd' s s' HWq.out hq).mono ?_
            rintro _ w7 ⟨rfl, hw7, f7⟩
            have HZ : Hid (∃ M' kf', WS w w7 g b M' ∧ OD w7 o ((e0 : Int) - 1) ∧ Blk w7 K (kcells kf') 28 ∧ (∀ i, i ≤ 51 → kf' i = kOf (wl M' (i : Int))) ∧ (∀ x ∈ M', x.1 ≤ 50) ∧ (∀ x ∈ M', x.2.1 = 1 ∨ (x.2.1 = 5 ∧ x.2.2 = false))) := hid
              ⟨M, kf, hw7, HOq.out.keep f7 (fun h => h), HKq.out.keep f7 (fun h => h), HKF0.out, HKY0.out, HKD0.out⟩
            clear hw7 f7 hq HWq HOq HKq BD HKF0 HKY0 HKD0
            obtain ⟨M', kf', hw1, ho1, hk1, hkf, hky, hkd⟩ := HZ.out
            have HW1 := hid hw1
            have HO1 := hid ho1
            have HK1 := hid hk1
            have HKF := hid hkf
            have HKY := hid hky
            have HKD := hid hkd
            clear hw1 ho1 hk1 hkf hky hkd HZ
            obtain ⟨sf, hsf⟩ : ∃ sf, X / 1024 = sf := ⟨_, rfl⟩
            clear hx0 hx1
            go_wp2_with fail
            refine (next_any ((e0 : Int) - 1) sf HW1.out HO1.out hlo (by omega) (by omega)).mono ?_
            rintro _ w8 ⟨v, rfl, hr8, ho8, hw8, f8, _⟩
            obtain ⟨G, hG⟩ : ∃ G, G = (nxt M' sf ((e0 : Int) - 1)).1 := ⟨_, rfl⟩
            obtain ⟨D, hD⟩ : ∃ D, D = (nxt M' sf ((e0 : Int) - 1)).2 := ⟨_, rfl⟩
            rw [← hG] at hr8
            rw [← hD] at ho8
            have HGE := hid hG
            have HDE := hid hD
            obtain ⟨ao, ac, rfl⟩ := rowN_shape hr8
            have HR8 := hid hr8
            have HO2 := hid ho8
            have HW2 := hid hw8
            have HK2 := hid (HK1.out.keep f8 hko)
            have hG1 : G.length ≤ 100000 := by rw [hG]; exact Nat.le_trans (nx_len M' sf (1001 - ((e0 : Int) - 1)).toNat _) (by omega)
            clear hr8 ho8 hw8 f8 hG hD HW1 HO1 HK1 hsf
            go_wp2_with fail
            go_loop [5, 15] (fun n at_ => ∃ e p : Nat, n = .int .i64 e ∧ at_ = .int .i64 p ∧ 1 ≤ e ∧ e ≤ 51 ∧ p ≤ G.length ∧ G.drop p = (nxt M' sf ((e : Int) - 1)).1 ∧ (nxt M' sf ((e : Int) - 1)).2 = D) (fun n _ => (60 - intOf n).toNat)
            case atStart => exact ⟨e0, 0, rfl, rfl, he1, he2, by omega, by rw [List.drop_zero]; exact HGE.out, HDE.out.symm⟩
            case round =>
              clear HGE HDE he1 he2
              obtain ⟨e, p, rfl, rfl, he1, he2, hp, hdr, hdn⟩ := hrel
              have HDR := hid hdr
              have HDN := hid hdn
              clear hdr hdn
              have k0 : (0 : Int) ≤ (e : Int) := by omega
              by_cases h50 : e ≤ 50
              · have k1 : (e : Int) ≤ 50 := by omega
                have k2 : (e : Int) < 52 := by omega
                have hcell : w8.cell? ⟨K, e, none⟩ = some (.int .i64 (kf' e)) := HK2.out.cell e (kc_get kf' e (by omega))
                rw [HKF.out e (by omega)] at hcell
                cases hq : wl M' (e : Int) with
                | none =>
                  rw [hq] at hcell
                  have HE := hid (nxt_none (M := M') (safe := sf) (d := (e : Int) - 1) (by omega) (by rw [Int.sub_add_cancel]; exact hq))
                  clear hq
                  simp only [kOf] at hcell
                  have hat : p = G.length := by
                    have := congrArg List.length HDR.out
                    rw [HE.out] at this
                    simp at this; omega
                  have HDD : Hid (D = (e : Int) - 1) := hid (by rw [← HDN.out, HE.out])
                  clear HE HDR HDN
                  subst hat
                  have hdo := HO2.out
                  rw [HDD.out] at hdo
                  have HO3 := hid hdo
                  clear hdo HO2
                  go_wp2_with fail
                  refine (done_any HO3.out).mono ?_
                  rintro _ wz ⟨rfl, rfl⟩
                  go_wp2_with fail
                  go_roundw
                  case rel => exact ⟨j + 1, e, by omega, by omega, by go_num, rfl, he1, he2, M', kf', HW2.out, HO3.out, HK2.out, HKF.out, HKY.out, HKD.out⟩
                  case measure => simp [intOf]; omega
                | some q =>
                  obtain ⟨kd, s⟩ := q
                  rw [hq] at hcell
                  by_cases hs : s = true ∧ sf < (e : Int)
                  · have HE := hid (nxt_wait (M := M') (safe := sf) (d := (e : Int) - 1) (by omega) (by rw [Int.sub_add_cancel]; exact hq) (by rw [Int.sub_add_cancel]; exact hs))
                    obtain ⟨rfl, hs2⟩ := hs
                    have hk5 : kd = 1 := by
                      rcases HKD.out _ (wl_mem hq) with h | h
                      · exact h
                      · exact absurd h.2 (by simp)
                    subst hk5
                    clear hq
                    simp only [kOf] at hcell
                    have hd1 : decide ((e : Int) ≤ sf) = false := decide_eq_false (by omega)
                    have hat : p = G.length := by
                      have := congrArg List.length HDR.out
                      rw [HE.out] at this
                      simp at this; omega
                    have HDD : Hid (D = (e : Int) - 1) := hid (by rw [← HDN.out, HE.out])
                    clear HE HDR HDN
                    subst hat
                    have hdo := HO2.out
                    rw [HDD.out] at hdo
                    have HO3 := hid hdo
                    clear hdo HO2
                    go_wp2_with fail
                    refine (done_any HO3.out).mono ?_
                    rintro _ wz ⟨rfl, rfl⟩
                    go_wp2_with fail
                    go_roundw
                    case rel => exact ⟨j + 1, e, by omega, by omega, by go_num, rfl, he1, he2, M', kf', HW2.out, HO3.out, HK2.out, HKF.out, HKY.out, HKD.out⟩
                    case measure => simp [intOf]; omega
                  · have HE := hid (nxt_go (M := M') (safe := sf) (d := (e : Int) - 1) (by omega) (by rw [Int.sub_add_cancel]; exact hq) (by rw [Int.sub_add_cancel]; exact hs))
                    have hex : kd = 5 ∨ (kd = 1 ∧ s = false) ∨ (kd = 1 ∧ s = true ∧ (e : Int) ≤ sf) := by
                      rcases HKD.out _ (wl_mem hq) with h | h
                      · cases s with
                        | false => exact .inr (.inl ⟨h, rfl⟩)
                        | true => exact .inr (.inr ⟨h, rfl, by by_cases h2 : (e : Int) ≤ sf; exact h2; exact absurd ⟨rfl, by omega⟩ hs⟩)
                      · exact .inl h.1
                    have HX := hid hq
                    clear hs hq
                    rcases hex with rfl | ⟨rfl, rfl⟩ | ⟨rfl, rfl, hs2⟩
                    · simp only [kOf] at hcell
                      go_wp2_with fail
                      go_round
                      case rel => exact ⟨e + 1, p, by go_num, rfl, by omega, by omega, hp, by rw [HDR.out, HE.out]; simp [whole_cast], by rw [← HDN.out, HE.out]; simp [whole_cast]⟩
                      case measure => simp [intOf]; omega
                    · simp only [kOf] at hcell
                      obtain ⟨hp1, hp2⟩ := whole_at HDR.out HE.out
                      obtain ⟨gb, cb, hab, _, hnc, hcm⟩ := rowN_some HR8.out (by omega)
                      injection hab with e1 e2 e3
                      subst e1; subst e3
                      have hc : w8.cell? ⟨gb, p * 18 + 2, none⟩ = some (.int .i64 ((e : Int) - 1 + 1)) := rowN_cell HR8.out _ _ (flatD_at hp2)
                      rw [Int.sub_add_cancel] at hc
                      have p0 : (0 : Int) ≤ (p : Int) := by omega
                      have p1 : (p : Int) < (G.length : Int) := by omega
                      have p2 : ¬ ((G.length : Int) ≤ (p : Int)) := by omega
                      have HP2 := hid hp2
                      clear hcm hnc hp2
                      go_wp2_with fail
                      go_round
                      case rel => exact ⟨e + 1, p + 1, by go_num, by go_num, by omega, by omega, by omega, whole_next HDR.out HE.out, by rw [← HDN.out, HE.out]; simp [whole_cast]⟩
                      case measure => simp [intOf]; omega
                    · simp only [kOf] at hcell
                      obtain ⟨hp1, hp2⟩ := whole_at HDR.out HE.out
                      obtain ⟨gb, cb, hab, _, hnc, hcm⟩ := rowN_some HR8.out (by omega)
                      injection hab with e1 e2 e3
                      subst e1; subst e3
                      have hc : w8.cell? ⟨gb, p * 18 + 2, none⟩ = some (.int .i64 ((e : Int) - 1 + 1)) := rowN_cell HR8.out _ _ (flatD_at hp2)
                      rw [Int.sub_add_cancel] at hc
                      have p0 : (0 : Int) ≤ (p : Int) := by omega
                      have p1 : (p : Int) < (G.length : Int) := by omega
                      have p2 : ¬ ((G.length : Int) ≤ (p : Int)) := by omega
                      have HP2 := hid hp2
                      clear hcm hnc hp2
                      go_wp2_with fail
                      go_round
                      case rel => exact ⟨e + 1, p + 1, by go_num, by go_num, by omega, by omega, by omega, whole_next HDR.out HE.out, by rw [← HDN.out, HE.out]; simp [whole_cast]⟩
                      case measure => simp [intOf]; omega
              · have k1 : decide ((e : Int) ≤ 50) = false := decide_eq_false (by omega)
                have hq : wl M' (e : Int) = none := by
                  cases hq : wl M' (e : Int) with
                  | none => rfl
                  | some q => have := HKY.out _ (wl_mem hq); simp only at this; omega
                have HE := hid (nxt_none (M := M') (safe := sf) (d := (e : Int) - 1) (by omega) (by rw [Int.sub_add_cancel]; exact hq))
                clear hq
                have hat : p = G.length := by
                  have := congrArg List.length HDR.out
                  rw [HE.out] at this
                  simp at this; omega
                have HDD : Hid (D = (e : Int) - 1) := hid (by rw [← HDN.out, HE.out])
                clear HE HDR HDN
                subst hat
                have hdo := HO2.out
                rw [HDD.out] at hdo
                have HO3 := hid hdo
                clear hdo HO2
                go_wp2_with fail
                refine (done_any HO3.out).mono ?_
                rintro _ wz ⟨rfl, rfl⟩
                go_wp2_with fail
                go_roundw
                case rel => exact ⟨j + 1, e, by omega, by omega, by go_num, rfl, he1, he2, M', kf', HW2.out, HO3.out, HK2.out, HKF.out, HKY.out, HKD.out⟩
                case measure => simp [intOf]; omega
          | none =>
            refine (put_new (n : Int) 1 s HWq.out hq (by omega) (by omega)).mono ?_
            rintro _ w7 ⟨rfl, hw7, f7⟩
            have HW7 := hid hw7
            have HO7 := hid (HOq.out.keep f7 hog)
            have HK7 := hid (HKq.out.keep f7 hkg)
            have HQ := hid hq
            have BD7 := BD.out.keep f7 hxg
            have ck : w7.cell? ⟨K, n, none⟩ = some (.int .i64 (kf n)) := HK7.out.cell n (kc_get kf n (by omega))
            have yk := HK7.out.free n
            have m12 : w7.cell? ⟨x, 12, none⟩ = some (.bool s) := BD7.cell 12 rfl
            have m5 : w7.cell? ⟨x, 5, none⟩ = some (.int .i64 1) := BD7.cell 5 rfl
            have n0 : (0 : Int) ≤ (n : Int) := by omega
            have n1 : (n : Int) < 52 := by omega
            clear hw7 f7 hq HWq HOq HKq BD BD7
            cases s with
            | true =>
              as_aux_lemma =>
                go_upto_region 23 with (fail)
                have HZ : Hid (∃ M' kf', WS w ((w7.setCell ⟨K, n, none⟩ (.int .i64 1)).setCell ⟨K, n, none⟩ (.int .i64 2)) g b M' ∧ OD ((w7.setCell ⟨K, n, none⟩ (.int .i64 1)).setCell ⟨K, n, none⟩ (.int .i64 2)) o ((e0 : Int) - 1) ∧ Blk ((w7.setCell ⟨K, n, none⟩ (.int .i64 1)).setCell ⟨K, n, none⟩ (.int .i64 2)) K (kcells kf') 28 ∧ (∀ i, i ≤ 51 → kf' i = kOf (wl M' (i : Int))) ∧ (∀ x ∈ M', x.1 ≤ 50) ∧ (∀ x ∈ M', x.2.1 = 1 ∨ (x.2.1 = 5 ∧ x.2.2 = false))) := hid
                  ⟨M ++ [((n : Int), (1, true))], (fun j => if j = n then 2 else if j = n then 1 else kf j), HW7.out.keepS (((Fr.refl (· = K) w7).set1 n (.int .i64 1)).set1 n (.int .i64 2)) (fun e => hkg (.inl e.symm)) (fun e => hkg (.inr e.symm)) (fun k e => by omega), HO7.out.keep (((Fr.refl (· = K) w7).set1 n (.int .i64 1)).set1 n (.int .i64 2)) (fun e => hko e.symm), ((HK7.out.set' n (.int .i64 1) (kc_set kf n 1)).set' n (.int .i64 2) (kc_set _ n 2)), fun i hi => by
                    rw [wl_append]
                    by_cases hin : i = n
                    · subst hin; rw [HQ.out]; simp [kOf]
                    · have hne : ¬ ((n : Int) = (i : Int)) := by omega
                      simp only [if_neg hin, if_neg hne]
                      rw [HKF0.out i hi]
                      cases wl M (i : Int) <;> rfl, fun x hx => by
                      rcases List.mem_append.1 hx with hx | hx
                      · exact HKY0.out x hx
                      · simp at hx; subst hx; show (n : Int) ≤ 50; omega, fun x hx => by
                      rcases List.mem_append.1 hx with hx | hx
                      · exact HKD0.out x hx
                      · simp at hx; subst hx; simp⟩
                clear HW7 HO7 HK7 HQ HKF0 HKY0 HKD0 ck yk m12 m5
                generalize ((w7.setCell ⟨K, n, none⟩ (.int .i64 1)).setCell ⟨K, n, none⟩ (.int .i64 2)) = w9 at *
                obtain ⟨M', kf', hw1, ho1, hk1, hkf, hky, hkd⟩ := HZ.out
                have HW1 := hid hw1
                have HO1 := hid ho1
                have HK1 := hid hk1
                have HKF := hid hkf
                have HKY := hid hky
                have HKD := hid hkd
                clear hw1 ho1 hk1 hkf hky hkd HZ
                obtain ⟨sf, hsf⟩ : ∃ sf, X / 1024 = sf := ⟨_, rfl⟩
                clear hx0 hx1
                go_wp2_with fail
                refine (next_any ((e0 : Int) - 1) sf HW1.out HO1.out hlo (by omega) (by omega)).mono ?_
                rintro _ w8 ⟨v, rfl, hr8, ho8, hw8, f8, _⟩
                obtain ⟨G, hG⟩ : ∃ G, G = (nxt M' sf ((e0 : Int) - 1)).1 := ⟨_, rfl⟩
                obtain ⟨D, hD⟩ : ∃ D, D = (nxt M' sf ((e0 : Int) - 1)).2 := ⟨_, rfl⟩
                rw [← hG] at hr8
                rw [← hD] at ho8
                have HGE := hid hG
                have HDE := hid hD
                obtain ⟨ao, ac, rfl⟩ := rowN_shape hr8
                have HR8 := hid hr8
                have HO2 := hid ho8
                have HW2 := hid hw8
                have HK2 := hid (HK1.out.keep f8 hko)
                have hG1 : G.length ≤ 100000 := by rw [hG]; exact Nat.le_trans (nx_len M' sf (1001 - ((e0 : Int) - 1)).toNat _) (by omega)
                clear hr8 ho8 hw8 f8 hG hD HW1 HO1 HK1 hsf
                go_wp2_with fail
                go_loop [5, 15] (fun n at_ => ∃ e p : Nat, n = .int .i64 e ∧ at_ = .int .i64 p ∧ 1 ≤ e ∧ e ≤ 51 ∧ p ≤ G.length ∧ G.drop p = (nxt M' sf ((e : Int) - 1)).1 ∧ (nxt M' sf ((e : Int) - 1)).2 = D) (fun n _ => (60 - intOf n).toNat)
                case atStart => exact ⟨e0, 0, rfl, rfl, he1, he2, by omega, by rw [List.drop_zero]; exact HGE.out, HDE.out.symm⟩
                case round =>
                  clear HGE HDE he1 he2
                  obtain ⟨e, p, rfl, rfl, he1, he2, hp, hdr, hdn⟩ := hrel
                  have HDR := hid hdr
                  have HDN := hid hdn
                  clear hdr hdn
                  have k0 : (0 : Int) ≤ (e : Int) := by omega
                  by_cases h50 : e ≤ 50
                  · have k1 : (e : Int) ≤ 50 := by omega
                    have k2 : (e : Int) < 52 := by omega
                    have hcell : w8.cell? ⟨K, e, none⟩ = some (.int .i64 (kf' e)) := HK2.out.cell e (kc_get kf' e (by omega))
                    rw [HKF.out e (by omega)] at hcell
                    cases hq : wl M' (e : Int) with
                    | none =>
                      rw [hq] at hcell
                      have HE := hid (nxt_none (M := M') (safe := sf) (d := (e : Int) - 1) (by omega) (by rw [Int.sub_add_cancel]; exact hq))
                      clear hq
                      simp only [kOf] at hcell
                      have hat : p = G.length := by
                        have := congrArg List.length HDR.out
                        rw [HE.out] at this
                        simp at this; omega
                      have HDD : Hid (D = (e : Int) - 1) := hid (by rw [← HDN.out, HE.out])
                      clear HE HDR HDN
                      subst hat
                      have hdo := HO2.out
                      rw [HDD.out] at hdo
                      have HO3 := hid hdo
                      clear hdo HO2
                      go_wp2_with fail
                      refine (done_any HO3.out).mono ?_
                      rintro _ wz ⟨rfl, rfl⟩
                      go_wp2_with fail
                      go_roundw
                      case rel => exact ⟨j + 1, e, by omega, by omega, by go_num, rfl, he1, he2, M', kf', HW2.out, HO3.out, HK2.out, HKF.out, HKY.out, HKD.out⟩
                      case measure => simp [intOf]; omega
                    | some q =>
                      obtain ⟨kd, s⟩ := q
                      rw [hq] at hcell
                      by_cases hs : s = true ∧ sf < (e : Int)
                      · have HE := hid (nxt_wait (M := M') (safe := sf) (d := (e : Int) - 1) (by omega) (by rw [Int.sub_add_cancel]; exact hq) (by rw [Int.sub_add_cancel]; exact hs))
                        obtain ⟨rfl, hs2⟩ := hs
                        have hk5 : kd = 1 := by
                          rcases HKD.out _ (wl_mem hq) with h | h
                          · exact h
                          · exact absurd h.2 (by simp)
                        subst hk5
                        clear hq
                        simp only [kOf] at hcell
                        have hd1 : decide ((e : Int) ≤ sf) = false := decide_eq_false (by omega)
                        have hat : p = G.length := by
                          have := congrArg List.length HDR.out
                          rw [HE.out] at this
                          simp at this; omega
                        have HDD : Hid (D = (e : Int) - 1) := hid (by rw [← HDN.out, HE.out])
                        clear HE HDR HDN
                        subst hat
                        have hdo := HO2.out
                        rw [HDD.out] at hdo
                        have HO3 := hid hdo
                        clear hdo HO2
                        go_wp2_with fail
                        refine (done_any HO3.out).mono ?_
                        rintro _ wz ⟨rfl, rfl⟩
                        go_wp2_with fail
                        go_roundw
                        case rel => exact ⟨j + 1, e, by omega, by omega, by go_num, rfl, he1, he2, M', kf', HW2.out, HO3.out, HK2.out, HKF.out, HKY.out, HKD.out⟩
                        case measure => simp [intOf]; omega
                      · have HE := hid (nxt_go (M := M') (safe := sf) (d := (e : Int) - 1) (by omega) (by rw [Int.sub_add_cancel]; exact hq) (by rw [Int.sub_add_cancel]; exact hs))
                        have hex : kd = 5 ∨ (kd = 1 ∧ s = false) ∨ (kd = 1 ∧ s = true ∧ (e : Int) ≤ sf) := by
                          rcases HKD.out _ (wl_mem hq) with h | h
                          · cases s with
                            | false => exact .inr (.inl ⟨h, rfl⟩)
                            | true => exact .inr (.inr ⟨h, rfl, by by_cases h2 : (e : Int) ≤ sf; exact h2; exact absurd ⟨rfl, by omega⟩ hs⟩)
                          · exact .inl h.1
                        have HX := hid hq
                        clear hs hq
                        rcases hex with rfl | ⟨rfl, rfl⟩ | ⟨rfl, rfl, hs2⟩
                        · simp only [kOf] at hcell
                          go_wp2_with fail
                          go_round
                          case rel => exact ⟨e + 1, p, by go_num, rfl, by omega, by omega, hp, by rw [HDR.out, HE.out]; simp [whole_cast], by rw [← HDN.out, HE.out]; simp [whole_cast]⟩
                          case measure => simp [intOf]; omega
                        · simp only [kOf] at hcell
                          obtain ⟨hp1, hp2⟩ := whole_at HDR.out HE.out
                          obtain ⟨gb, cb, hab, _, hnc, hcm⟩ := rowN_some HR8.out (by omega)
                          injection hab with e1 e2 e3
                          subst e1; subst e3
                          have hc : w8.cell? ⟨gb, p * 18 + 2, none⟩ = some (.int .i64 ((e : Int) - 1 + 1)) := rowN_cell HR8.out _ _ (flatD_at hp2)
                          rw [Int.sub_add_cancel] at hc
                          have p0 : (0 : Int) ≤ (p : Int) := by omega
                          have p1 : (p : Int) < (G.length : Int) := by omega
                          have p2 : ¬ ((G.length : Int) ≤ (p : Int)) := by omega
                          have HP2 := hid hp2
                          clear hcm hnc hp2
                          go_wp2_with fail
                          go_round
                          case rel => exact ⟨e + 1, p + 1, by go_num, by go_num, by omega, by omega, by omega, whole_next HDR.out HE.out, by rw [← HDN.out, HE.out]; simp [whole_cast]⟩
                          case measure => simp [intOf]; omega
                        · simp only [kOf] at hcell
                          obtain ⟨hp1, hp2⟩ := whole_at HDR.out HE.out
                          obtain ⟨gb, cb, hab, _, hnc, hcm⟩ := rowN_some HR8.out (by omega)
                          injection hab with e1 e2 e3
                          subst e1; subst e3
                          have hc : w8.cell? ⟨gb, p * 18 + 2, none⟩ = some (.int .i64 ((e : Int) - 1 + 1)) := rowN_cell HR8.out _ _ (flatD_at hp2)
                          rw [Int.sub_add_cancel] at hc
                          have p0 : (0 : Int) ≤ (p : Int) := by omega
                          have p1 : (p : Int) < (G.length : Int) := by omega
                          have p2 : ¬ ((G.length : Int) ≤ (p : Int)) := by omega
                          have HP2 := hid hp2
                          clear hcm hnc hp2
                          go_wp2_with fail
                          go_round
                          case rel => exact ⟨e + 1, p + 1, by go_num, by go_num, by omega, by omega, by omega, whole_next HDR.out HE.out, by rw [← HDN.out, HE.out]; simp [whole_cast]⟩
                          case measure => simp [intOf]; omega
                  · have k1 : decide ((e : Int) ≤ 50) = false := decide_eq_false (by omega)
                    have hq : wl M' (e : Int) = none := by
                      cases hq : wl M' (e : Int) with
                      | none => rfl
                      | some q => have := HKY.out _ (wl_mem hq); simp only at this; omega
                    have HE := hid (nxt_none (M := M') (safe := sf) (d := (e : Int) - 1) (by omega) (by rw [Int.sub_add_cancel]; exact hq))
                    clear hq
                    have hat : p = G.length := by
                      have := congrArg List.length HDR.out
                      rw [HE.out] at this
                      simp at this; omega
                    have HDD : Hid (D = (e : Int) - 1) := hid (by rw [← HDN.out, HE.out])
                    clear HE HDR HDN
                    subst hat
                    have hdo := HO2.out
                    rw [HDD.out] at hdo
                    have HO3 := hid hdo
                    clear hdo HO2
                    go_wp2_with fail
                    refine (done_any HO3.out).mono ?_
                    rintro _ wz ⟨rfl, rfl⟩
                    go_wp2_with fail
                    go_roundw
                    case rel => exact ⟨j + 1, e, by omega, by omega, by go_num, rfl, he1, he2, M', kf', HW2.out, HO3.out, HK2.out, HKF.out, HKY.out, HKD.out⟩
                    case measure => simp [intOf]; omega
            | false =>
              as_aux_lemma =>
                go_upto_region 23 with (fail)
                have HZ : Hid (∃ M' kf', WS w (w7.setCell ⟨K, n, none⟩ (.int .i64 1)) g b M' ∧ OD (w7.setCell ⟨K, n, none⟩ (.int .i64 1)) o ((e0 : Int) - 1) ∧ Blk (w7.setCell ⟨K, n, none⟩ (.int .i64 1)) K (kcells kf') 28 ∧ (∀ i, i ≤ 51 → kf' i = kOf (wl M' (i : Int))) ∧ (∀ x ∈ M', x.1 ≤ 50) ∧ (∀ x ∈ M', x.2.1 = 1 ∨ (x.2.1 = 5 ∧ x.2.2 = false))) := hid
                  ⟨M ++ [((n : Int), (1, false))], (fun j => if j = n then 1 else kf j), HW7.out.keepS ((Fr.refl (· = K) w7).set1 n (.int .i64 1)) (fun e => hkg (.inl e.symm)) (fun e => hkg (.inr e.symm)) (fun k e => by omega), HO7.out.keep ((Fr.refl (· = K) w7).set1 n (.int .i64 1)) (fun e => hko e.symm), (HK7.out.set' n (.int .i64 1) (kc_set kf n 1)), fun i hi => by
                    rw [wl_append]
                    by_cases hin : i = n
                    · subst hin; rw [HQ.out]; simp [kOf]
                    · have hne : ¬ ((n : Int) = (i : Int)) := by omega
                      simp only [if_neg hin, if_neg hne]
                      rw [HKF0.out i hi]
                      cases wl M (i : Int) <;> rfl, fun x hx => by
                      rcases List.mem_append.1 hx with hx | hx
                      · exact HKY0.out x hx
                      · simp at hx; subst hx; show (n : Int) ≤ 50; omega, fun x hx => by
                      rcases List.mem_append.1 hx with hx | hx
                      · exact HKD0.out x hx
                      · simp at hx; subst hx; simp⟩
                clear HW7 HO7 HK7 HQ HKF0 HKY0 HKD0 ck yk m12 m5
                generalize (w7.setCell ⟨K, n, none⟩ (.int .i64 1)) = w9 at *
                obtain ⟨M', kf', hw1, ho1, hk1, hkf, hky, hkd⟩ := HZ.out
                have HW1 := hid hw1
                have HO1 := hid ho1
                have HK1 := hid hk1
                have HKF := hid hkf
                have HKY := hid hky
                have HKD := hid hkd
                clear hw1 ho1 hk1 hkf hky hkd HZ
                obtain ⟨sf, hsf⟩ : ∃ sf, X / 1024 = sf := ⟨_, rfl⟩
                clear hx0 hx1
                go_wp2_with fail
                refine (next_any ((e0 : Int) - 1) sf HW1.out HO1.out hlo (by omega) (by omega)).mono ?_
                rintro _ w8 ⟨v, rfl, hr8, ho8, hw8, f8, _⟩
                obtain ⟨G, hG⟩ : ∃ G, G = (nxt M' sf ((e0 : Int) - 1)).1 := ⟨_, rfl⟩
                obtain ⟨D, hD⟩ : ∃ D, D = (nxt M' sf ((e0 : Int) - 1)).2 := ⟨_, rfl⟩
                rw [← hG] at hr8
                rw [← hD] at ho8
                have HGE := hid hG
                have HDE := hid hD
                obtain ⟨ao, ac, rfl⟩ := rowN_shape hr8
                have HR8 := hid hr8
                have HO2 := hid ho8
                have HW2 := hid hw8
                have HK2 := hid (HK1.out.keep f8 hko)
                have hG1 : G.length ≤ 100000 := by rw [hG]; exact Nat.le_trans (nx_len M' sf (1001 - ((e0 : Int) - 1)).toNat _) (by omega)
                clear hr8 ho8 hw8 f8 hG hD HW1 HO1 HK1 hsf
                go_wp2_with fail
                go_loop [5, 15] (fun n at_ => ∃ e p : Nat, n = .int .i64 e ∧ at_ = .int .i64 p ∧ 1 ≤ e ∧ e ≤ 51 ∧ p ≤ G.length ∧ G.drop p = (nxt M' sf ((e : Int) - 1)).1 ∧ (nxt M' sf ((e : Int) - 1)).2 = D) (fun n _ => (60 - intOf n).toNat)
                case atStart => exact ⟨e0, 0, rfl, rfl, he1, he2, by omega, by rw [List.drop_zero]; exact HGE.out, HDE.out.symm⟩
                case round =>
                  clear HGE HDE he1 he2
                  obtain ⟨e, p, rfl, rfl, he1, he2, hp, hdr, hdn⟩ := hrel
                  have HDR := hid hdr
                  have HDN := hid hdn
                  clear hdr hdn
                  have k0 : (0 : Int) ≤ (e : Int) := by omega
                  by_cases h50 : e ≤ 50
                  · have k1 : (e : Int) ≤ 50 := by omega
                    have k2 : (e : Int) < 52 := by omega
                    have hcell : w8.cell? ⟨K, e, none⟩ = some (.int .i64 (kf' e)) := HK2.out.cell e (kc_get kf' e (by omega))
                    rw [HKF.out e (by omega)] at hcell
                    cases hq : wl M' (e : Int) with
                    | none =>
                      rw [hq] at hcell
                      have HE := hid (nxt_none (M := M') (safe := sf) (d := (e : Int) - 1) (by omega) (by rw [Int.sub_add_cancel]; exact hq))
                      clear hq
                      simp only [kOf] at hcell
                      have hat : p = G.length := by
                        have := congrArg List.length HDR.out
                        rw [HE.out] at this
                        simp at this; omega
                      have HDD : Hid (D = (e : Int) - 1) := hid (by rw [← HDN.out, HE.out])
                      clear HE HDR HDN
                      subst hat
                      have hdo := HO2.out
                      rw [HDD.out] at hdo
                      have HO3 := hid hdo
                      clear hdo HO2
                      go_wp2_with fail
                      refine (done_any HO3.out).mono ?_
                      rintro _ wz ⟨rfl, rfl⟩
                      go_wp2_with fail
                      go_roundw
                      case rel => exact ⟨j + 1, e, by omega, by omega, by go_num, rfl, he1, he2, M', kf', HW2.out, HO3.out, HK2.out, HKF.out, HKY.out, HKD.out⟩
                      case measure => simp [intOf]; omega
                    | some q =>
                      obtain ⟨kd, s⟩ := q
                      rw [hq] at hcell
                      by_cases hs : s = true ∧ sf < (e : Int)
                      · have HE := hid (nxt_wait (M := M') (safe := sf) (d := (e : Int) - 1) (by omega) (by rw [Int.sub_add_cancel]; exact hq) (by rw [Int.sub_add_cancel]; exact hs))
                        obtain ⟨rfl, hs2⟩ := hs
                        have hk5 : kd = 1 := by
                          rcases HKD.out _ (wl_mem hq) with h | h
                          · exact h
                          · exact absurd h.2 (by simp)
                        subst hk5
                        clear hq
                        simp only [kOf] at hcell
                        have hd1 : decide ((e : Int) ≤ sf) = false := decide_eq_false (by omega)
                        have hat : p = G.length := by
                          have := congrArg List.length HDR.out
                          rw [HE.out] at this
                          simp at this; omega
                        have HDD : Hid (D = (e : Int) - 1) := hid (by rw [← HDN.out, HE.out])
                        clear HE HDR HDN
                        subst hat
                        have hdo := HO2.out
                        rw [HDD.out] at hdo
                        have HO3 := hid hdo
                        clear hdo HO2
                        go_wp2_with fail
                        refine (done_any HO3.out).mono ?_
                        rintro _ wz ⟨rfl, rfl⟩
                        go_wp2_with fail
                        go_roundw
                        case rel => exact ⟨j + 1, e, by omega, by omega, by go_num, rfl, he1, he2, M', kf', HW2.out, HO3.out, HK2.out, HKF.out, HKY.out, HKD.out⟩
                        case measure => simp [intOf]; omega
                      · have HE := hid (nxt_go (M := M') (safe := sf) (d := (e : Int) - 1) (by omega) (by rw [Int.sub_add_cancel]; exact hq) (by rw [Int.sub_add_cancel]; exact hs))
                        have hex : kd = 5 ∨ (kd = 1 ∧ s = false) ∨ (kd = 1 ∧ s = true ∧ (e : Int) ≤ sf) := by
                          rcases HKD.out _ (wl_mem hq) with h | h
                          · cases s with
                            | false => exact .inr (.inl ⟨h, rfl⟩)
                            | true => exact .inr (.inr ⟨h, rfl, by by_cases h2 : (e : Int) ≤ sf; exact h2; exact absurd ⟨rfl, by omega⟩ hs⟩)
                          · exact .inl h.1
                        have HX := hid hq
                        clear hs hq
                        rcases hex with rfl | ⟨rfl, rfl⟩ | ⟨rfl, rfl, hs2⟩
                        · simp only [kOf] at hcell
                          go_wp2_with fail
                          go_round
                          case rel => exact ⟨e + 1, p, by go_num, rfl, by omega, by omega, hp, by rw [HDR.out, HE.out]; simp [whole_cast], by rw [← HDN.out, HE.out]; simp [whole_cast]⟩
                          case measure => simp [intOf]; omega
                        · simp only [kOf] at hcell
                          obtain ⟨hp1, hp2⟩ := whole_at HDR.out HE.out
                          obtain ⟨gb, cb, hab, _, hnc, hcm⟩ := rowN_some HR8.out (by omega)
                          injection hab with e1 e2 e3
                          subst e1; subst e3
                          have hc : w8.cell? ⟨gb, p * 18 + 2, none⟩ = some (.int .i64 ((e : Int) - 1 + 1)) := rowN_cell HR8.out _ _ (flatD_at hp2)
                          rw [Int.sub_add_cancel] at hc
                          have p0 : (0 : Int) ≤ (p : Int) := by omega
                          have p1 : (p : Int) < (G.length : Int) := by omega
                          have p2 : ¬ ((G.length : Int) ≤ (p : Int)) := by omega
                          have HP2 := hid hp2
                          clear hcm hnc hp2
                          go_wp2_with fail
                          go_round
                          case rel => exact ⟨e + 1, p + 1, by go_num, by go_num, by omega, by omega, by omega, whole_next HDR.out HE.out, by rw [← HDN.out, HE.out]; simp [whole_cast]⟩
                          case measure => simp [intOf]; omega
                        · simp only [kOf] at hcell
                          obtain ⟨hp1, hp2⟩ := whole_at HDR.out HE.out
                          obtain ⟨gb, cb, hab, _, hnc, hcm⟩ := rowN_some HR8.out (by omega)
                          injection hab with e1 e2 e3
                          subst e1; subst e3
                          have hc : w8.cell? ⟨gb, p * 18 + 2, none⟩ = some (.int .i64 ((e : Int) - 1 + 1)) := rowN_cell HR8.out _ _ (flatD_at hp2)
                          rw [Int.sub_add_cancel] at hc
                          have p0 : (0 : Int) ≤ (p : Int) := by omega
                          have p1 : (p : Int) < (G.length : Int) := by omega
                          have p2 : ¬ ((G.length : Int) ≤ (p : Int)) := by omega
                          have HP2 := hid hp2
                          clear hcm hnc hp2
                          go_wp2_with fail
                          go_round
                          case rel => exact ⟨e + 1, p + 1, by go_num, by go_num, by omega, by omega, by omega, whole_next HDR.out HE.out, by rw [← HDN.out, HE.out]; simp [whole_cast]⟩
                          case measure => simp [intOf]; omega
                  · have k1 : decide ((e : Int) ≤ 50) = false := decide_eq_false (by omega)
                    have hq : wl M' (e : Int) = none := by
                      cases hq : wl M' (e : Int) with
                      | none => rfl
                      | some q => have := HKY.out _ (wl_mem hq); simp only at this; omega
                    have HE := hid (nxt_none (M := M') (safe := sf) (d := (e : Int) - 1) (by omega) (by rw [Int.sub_add_cancel]; exact hq))
                    clear hq
                    have hat : p = G.length := by
                      have := congrArg List.length HDR.out
                      rw [HE.out] at this
                      simp at this; omega
                    have HDD : Hid (D = (e : Int) - 1) := hid (by rw [← HDN.out, HE.out])
                    clear HE HDR HDN
                    subst hat
                    have hdo := HO2.out
                    rw [HDD.out] at hdo
                    have HO3 := hid hdo
                    clear hdo HO2
                    go_wp2_with fail
                    refine (done_any HO3.out).mono ?_
                    rintro _ wz ⟨rfl, rfl⟩
                    go_wp2_with fail
                    go_roundw
                    case rel => exact ⟨j + 1, e, by omega, by omega, by go_num, rfl, he1, he2, M', kf', HW2.out, HO3.out, HK2.out, HKF.out, HKY.out, HKD.out⟩
                    case measure => simp [intOf]; omega
    · have hex : ¬ j < len ∨ (j < len ∧ ¬ j < 150) := by omega
      clear hlt
      have HB := hid (HW.out.fr.below (Nat.le_refl _) (fun _ h => h.elim))
      rcases hex with hx | ⟨hx1, hx2⟩
      · have hxi : ¬ ((j : Int) < (len : Int)) := by omega
        go_wp2_with fail
        go_ret
        exact ⟨rfl, HB.out⟩
      · have hxi : (j : Int) < (len : Int) := by omega
        have hxj : ¬ ((j : Int) < 150) := by omega
        go_wp2_with fail
        go_ret
        exact ⟨rfl, HB.out⟩
end Go.Proofs.Ytclaggjlacinlaa
