/-
  A LANE: Flip. Conditions: as in XLane.
-/
import Derived.Test.YtcmdjcpbidbkjaaLaneMore
import Derived.Test.YtcmdjcpbidbkjaaI64
namespace Go.Proofs.Ytcmdjcpbidbkjaa
open Go.RowKit

def xbit (y : Int) (b : Nat) : Int := ((y.toNat ^^^ 2 ^ b : Nat) : Int)
theorem lflip_bad {g : Nat} {side : Int} {v : Value} {ds : List Dg} (i bit : Int) (w : World) (h : LS w g side v ds) (hi : ¬ (0 ≤ i ∧ i < (ds.length : Int))) :
    Calls Try.prog 18 #[.pointer (some ⟨g, 0, none⟩), .int .i64 i, .int .i64 bit] w fun e w' => e = .returned (.int .i64 9) ∧ w = w' := by
  have HCK := hid (lcheck_any i _ h)
  rw [if_neg hi] at HCK
  clear h hi
  go_enter Try.func18, Try.ntmps18
  go_wp2_with fail
  refine HCK.out.mono ?_
  rintro e w2 ⟨rfl, rfl⟩
  go_wp2_with fail
  go_ret
  exact ⟨rfl, rfl⟩
theorem lflip_none {g : Nat} {side : Int} {v : Value} {ds : List Dg} (i : Nat) (bit : Int) (d : Dg) (w : World) (h : LS w g side v ds) (hd : ds[i]? = some d) (hb : bit < 0 ∨ (d.bs.length : Int) ≤ bit / 8) :
    Calls Try.prog 18 #[.pointer (some ⟨g, 0, none⟩), .int .i64 (i : Int), .int .i64 bit] w fun e w' => e = .returned (.int .i64 9) ∧ w = w' := by
  have hil : i < ds.length := (List.getElem?_eq_some_iff.1 hd).1
  have HCK := hid (lcheck_any (i : Int) _ h)
  rw [if_pos (by omega)] at HCK
  obtain ⟨gb, cap, rfl, _, hnc, hcm⟩ := rowN_some h.dr.row (by omega)
  obtain ⟨hc0, hc1, hc2⟩ := h.dr.at rfl hd
  have hrow := (h.dr.dg d (List.mem_of_getElem? hd)).row
  obtain ⟨uo, uc, hu⟩ := rowN_shape hrow
  rw [hu] at hc2
  have c2 := h.blk.cell 2 rfl
  have i0 : (0 : Int) ≤ (i : Int) := by omega
  have i1 : (i : Int) < (ds.length : Int) := by omega
  generalize d.bs.length = n at *
  clear h hd hrow hu hil hc0 hc1
  have hcs : bit < 0 ∨ (¬ bit < 0 ∧ (n : Int) ≤ bit / 8) := by omega
  clear hb
  rcases hcs with h1 | ⟨h1, h2⟩
  all_goals
    go_enter Try.func18, Try.ntmps18
    go_wp2_with fail
    refine HCK.out.mono ?_
    rintro e w2 ⟨rfl, rfl⟩
    go_wp2_with fail
    go_ret
    exact ⟨rfl, rfl⟩
theorem set_row {w : World} {g n cap : Nat} {e : TypeId} {xs : List Value} (h : w.ownsRow 0 e 1 (.slice (some ⟨g, 0, none⟩) n cap) n xs) (i : Nat) (u : Value) :
    (w.setCell ⟨g, i, none⟩ u).ownsRow 0 e 1 (.slice (some ⟨g, 0, none⟩) n cap) n (xs.set i u) := rowN_set h i u
/-- One datagram's bytes are others, in their own row. -/
theorem LS.flip {w w' : World} {g : Nat} {side : Int} {v : Value} {ds : List Dg} (h : LS w g side v ds) (i : Nat) (d : Dg) (hd : ds[i]? = some d) (bs' : List Int) (f : Fr (· ∈ footOf d.v) w w')
    (hr : w'.ownsRow 0 5 1 d.v bs'.length (bs'.map (.int .u8))) (ha : AllB bs') (hl : bs'.length ≤ 140737488355328) : LS w' g side v (ds.set i ⟨d.src, d.dst, d.v, bs'⟩) := by
  have hil : i < ds.length := (List.getElem?_eq_some_iff.1 hd).1
  have hdi : ds[i] = d := (List.getElem?_eq_some_iff.1 hd).2
  have hdm : d ∈ ds := List.mem_of_getElem? hd
  have hflat : flat (ds.set i ⟨d.src, d.dst, d.v, bs'⟩) = flat ds := by
    clear hr ha hl f h hdm
    induction ds generalizing i with
    | nil => rfl
    | cons x r ih =>
      cases i with
      | zero => simp at hd; subst hd; simp [flat, Dg.cells]
      | succ i =>
        simp only [List.set_cons_succ, flat, List.flatMap_cons] at ih ⊢
        rw [ih i (by simpa using hd) (by simpa using hil) (by simpa using hdi)]
  refine ⟨h.blk.keep f (fun hk => h.dr.not_foot h.blk (by decide) (by decide) (mem_feet.2 (.inr ⟨d, hdm, hk⟩))), ?_, ?_, ?_⟩
  · rw [hflat, List.length_set]
    exact row_keep h.dr.row f (fun k hk hk' => h.dr.apart hdm k hk hk')
  · intro x hx
    obtain ⟨j, hj, hxj⟩ := List.mem_iff_getElem.1 hx
    rw [List.length_set] at hj
    by_cases hij : i = j
    · subst hij
      rw [List.getElem_set_self] at hxj
      subst hxj
      exact ⟨hr, ha, hl⟩
    · rw [List.getElem_set_ne hij] at hxj
      subst hxj
      have hsep := List.pairwise_iff_getElem.1 h.dr.sep
      refine (h.dr.dg _ (List.getElem_mem hj)).keep f (fun k hk hk' => ?_)
      rcases Nat.lt_or_gt_of_ne hij with hlt | hlt
      · exact hsep i j hil hj hlt k (by rw [hdi]; exact hk') hk
      · exact hsep j i hj hil hlt k hk (by rw [hdi]; exact hk')
  · rw [List.pairwise_iff_getElem]
    intro a b ha' hb' hab
    rw [List.length_set] at ha' hb'
    have hsep := List.pairwise_iff_getElem.1 h.dr.sep a b ha' hb' hab
    have e : ∀ j (hj : j < (ds.set i ⟨d.src, d.dst, d.v, bs'⟩).length) (hj' : j < ds.length), ((ds.set i ⟨d.src, d.dst, d.v, bs'⟩)[j]).v = (ds[j]).v := by
      intro j hj hj'
      by_cases hij : i = j
      · subst hij; rw [List.getElem_set_self, hdi]
      · rw [List.getElem_set_ne hij]
    rw [e a _ ha', e b _ hb']
    exact hsep
set_option maxRecDepth 100000 in
set_option maxHeartbeats 1000000 in
theorem lflip_good {g : Nat} {side : Int} {v : Value} {ds : List Dg} (i p : Nat) (d : Dg) (w : World) (h : LS w g side v ds) (hd : ds[i]? = some d) (hb : p / 8 < d.bs.length) (hp : p ≤ 9223372036854775807) :
    Calls Try.prog 18 #[.pointer (some ⟨g, 0, none⟩), .int .i64 (i : Int), .int .i64 (p : Int)] w fun e w' => e = .returned (.int .i64 0) ∧ LS w' g side v (ds.set i ⟨d.src, d.dst, d.v, d.bs.set (p / 8) (xbit (d.bs.getD (p / 8) 0) (p % 8))⟩) ∧ Fr (· ∈ footOf d.v) w w' := by
  have hil : i < ds.length := (List.getElem?_eq_some_iff.1 hd).1
  have HCK := hid (lcheck_any (i : Int) _ h)
  rw [if_pos (by omega)] at HCK
  have HLS := hid h
  obtain ⟨gb, cap, rfl, _, hnc, hcm⟩ := rowN_some h.dr.row (by omega)
  obtain ⟨hc0, hc1, hc2⟩ := h.dr.at rfl hd
  have hdg := h.dr.dg d (List.mem_of_getElem? hd)
  obtain ⟨u, uc, hu, _⟩ := rowN_some hdg.row (by omega)
  have hrow := hdg.row
  rw [hu] at hc2 hrow
  have c2 := h.blk.cell 2 rfl
  have i0 : (0 : Int) ≤ (i : Int) := by omega
  have i1 : (i : Int) < (ds.length : Int) := by omega
  have hab := hdg.ab.at (p / 8)
  have hc := rowN_cell hrow (p / 8) (.int .u8 (d.bs.getD (p / 8) 0)) (ints_get hb)
  have hfz := rowN_free hrow (p / 8)
  have hln := hdg.len
  have HBS := hid hdg.ab
  have HLEN := hid hdg.len
  have HD := hid hd
  have HU := hid hu
  obtain ⟨j, hj⟩ : ∃ j, j = p / 8 := ⟨_, rfl⟩
  obtain ⟨b, hb8⟩ : ∃ b, b = p % 8 := ⟨_, rfl⟩
  have hb9 : b < 8 := by omega
  rw [← hj] at hb hab hc hfz ⊢
  rw [← hb8]
  have hjz : ((p : Int) / 8) = (j : Int) := by omega
  have hmz : bits .and .i64 (p : Int) 7 = (b : Int) := by
    have h1 := i64_and_nat p 7 (by omega) (by decide)
    have h2 : p &&& 7 = p % 8 := Nat.and_two_pow_sub_one_eq_mod p 3
    rw [show ((7 : Nat) : Int) = 7 from rfl] at h1
    rw [h1, h2, hb8]
  generalize hy : d.bs.getD j 0 = y at *
  obtain ⟨y, rfl⟩ := Int.eq_ofNat_of_zero_le hab.1
  have hy255 : y < 256 := by omega
  have hpow : ((2 : Int) ^ b % 256) = ((2 ^ b : Nat) : Int) := by
    have : b = 0 ∨ b = 1 ∨ b = 2 ∨ b = 3 ∨ b = 4 ∨ b = 5 ∨ b = 6 ∨ b = 7 := by omega
    rcases this with rfl | rfl | rfl | rfl | rfl | rfl | rfl | rfl <;> rfl
  have hpl : 2 ^ b < 2 ^ 8 := Nat.pow_lt_pow_right (by decide) hb9
  have hx1 : bits .xor .u8 (y : Int) ((2 ^ b : Nat) : Int) = ((y ^^^ 2 ^ b : Nat) : Int) := u8_xor_nat y (2 ^ b) hy255 hpl
  have hx2 : y ^^^ 2 ^ b < 2 ^ 8 := Nat.xor_lt_two_pow hy255 hpl
  have hx4 : bits .xor .u8 (y : Int) ((2 : Int) ^ b % 256) = ((y ^^^ 2 ^ b : Nat) : Int) := by rw [hpow]; exact hx1
  have hxb : xbit (y : Int) b = ((y ^^^ 2 ^ b : Nat) : Int) := by unfold xbit; rw [Int.toNat_natCast]
  rw [hxb]
  clear hpow hpl hx1 hxb
  generalize y ^^^ 2 ^ b = X at *
  have hset := set_row hrow j (.int .u8 (X : Int))
  rw [← List.map_set] at hset
  have HSET : Hid ((w.setCell ⟨u, j, none⟩ (.int .u8 (X : Int))).ownsRow 0 5 1 d.v (d.bs.set j (X : Int)).length ((d.bs.set j (X : Int)).map (.int .u8))) := hid (by
    rw [List.length_set, hu]; exact hset)
  have n0 : (0 : Int) ≤ (p : Int) := by omega
  have n1 : ¬ ((d.bs.length : Int) ≤ (j : Int)) := by omega
  have n2 : (j : Int) < (d.bs.length : Int) := by omega
  have n3 : (0 : Int) ≤ (j : Int) := by omega
  have n4 : ¬ ((j : Int) ≥ (d.bs.length : Int)) := by omega
  have HX : Hid (X < 256) := hid hx2
  clear h hd hdg hrow hset hil hc0 hc1 hln hj hb8 hu
  generalize hn : d.bs.length = n at *
  have HN := hid hn
  clear hn
  go_enter Try.func18, Try.ntmps18
  go_wp2_with fail
  refine HCK.out.mono ?_
  rintro e w2 ⟨rfl, rfl⟩
  go_wp2_with fail
  go_region
  have hf : Fr (· ∈ footOf d.v) w (w.setCell ⟨u, j, none⟩ (.int .u8 (X : Int))).drew := ((Fr.refl (· = u) w).set1 j _).mono (fun k _ h => by rw [HU.out]; simp [footOf, Value.ownBlock, h]) |>.drew
  have HF := hid hf
  have hxx := HX.out
  have HL := hid (HLS.out.flip i d HD.out (d.bs.set j (X : Int)) hf (row_keep HSET.out (Fr.refl (fun _ => False) _).drew (fun _ _ h => h)) (fun z hz => by
    rcases List.mem_or_eq_of_mem_set hz with h | h
    · exact HBS.out z h
    · omega) (by rw [List.length_set, HN.out]; exact HLEN.out))
  clear hf hxx
  go_wp2_with fail
  go_ret
  exact ⟨rfl, HL.out, HF.out⟩
end Go.Proofs.Ytcmdjcpbidbkjaa
