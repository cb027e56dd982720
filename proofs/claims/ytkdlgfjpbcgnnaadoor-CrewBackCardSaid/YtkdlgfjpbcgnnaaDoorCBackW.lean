/-
  THE WALK OF CrewBack. Conditions: the table of math/bits as its initialiser lays it; the list's room as the form's reach says.
-/
import Derived.Test.YtkdlgfjpbcgnnaaDoorCBack
import Derived.Deep.QuietTactic
import Derived.BigQuiet
namespace Go.Proofs.YtkdlgfjpbcgnnaaDoor
open Go.RowKit

theorem fr_drewN {S : Nat → Prop} {a w : World} (h : Fr S a w) (n : Nat) : Fr S a (w.drewN n) := ⟨h.os, h.tape, h.output, h.size, h.block⟩
theorem nodes_take {zs : List Int} {k : Nat} (h : k < zs.length) : nodes (zs.take (k + 1)) = nodes (zs.take k) ++ [1 + bring (zs.getD k 0) 8] := by
  unfold nodes
  rw [List.take_add_one, List.getElem?_eq_getElem h, getD_of h, List.map_append]
  rfl

set_option maxRecDepth 100000 in
set_option maxHeartbeats 4000000 in
theorem back_walk (c : Int) (a : Option Addr) (len cap : Nat) (z : List Int) (w : World) (hT : TabW w) (hwc : (Lit.int .i64 c).wf = true) (hw0 : IsRow .i64 w a len cap z) (hs : cap * 8 ≤ 140737488351232) : Calls Tryd.prog 7 #[.int .i64 c, .slice a len cap] w fun e w' => e = .returned (.bool true) ∧ Below w.heap.size w w' := by
  obtain ⟨i0, i1, i2, i3, i4⟩ := intI
  have HT := hid hT
  have hc := wf_i64_bd hwc
  have HW := hid (works_any w hT)
  have hv0 := Vw.of_is hw0
  have hl : (z.take len).length ≤ cap ∧ len = (z.take len).length := by
    obtain ⟨_, c, he, h1, _⟩ := id hv0
    injection he with _ e2 e3
    subst e3; exact ⟨h1, e2⟩
  have hwz : ∀ y ∈ z.take len, -9223372036854775808 ≤ y ∧ y ≤ 9223372036854775807 := fun y hy => wf_i64_bd (hw0.wf y (List.mem_of_mem_take hy))
  generalize z.take len = xs at *
  obtain ⟨hl1, hl2⟩ := hl
  have HN := hid hl2
  have hn8 : len * 8 ≤ 140737488351232 := by omega
  have HCL : Hid (∀ i, i < xs.length → ∃ b off, a = some ⟨b, off, none⟩ ∧ b < w.heap.size ∧ w.cell? ⟨b, off + i, none⟩ = some (.int .i64 (xs.getD i 0))) := hid (by
    obtain ⟨_, _, he, _, _, _, hcell⟩ := hv0
    injection he with he1 _ _
    subst he1
    exact hcell)
  have HWZ := hid hwz
  have hn9 : len ≤ 9223372036854775807 := by omega
  have HX := hid (back_c c)
  have hand := mN_and c
  have hchk : (if chkV c then (2 : Int) else 0) = 0 ↔ (mN c : Int) = c := by
    have h1 := chk_iff c hc.1 hc.2
    rw [lst_or] at h1
    have h2 : (((mN c : Nat) : Int) != c) = chkV c := h1
    cases hk : chkV c with
    | true => rw [hk] at h2; simp at h2; simp; exact h2
    | false => rw [hk] at h2; simp at h2; simp; exact h2
  have hsm := small_of (mN_lt c) (mN_even c)
  have HCX := hid fun W => check_c (mN c : Int) 0 W (by rw [hsm.1]; rfl)
  obtain ⟨q, hq⟩ : ∃ q, (if chkV c then (2 : Int) else 0) = q := ⟨_, rfl⟩
  have HCC := hid fun W => check_c c q W hq
  rw [hq] at hchk
  obtain ⟨tt, ht1, ht2⟩ : ∃ tt : Bool, (q == 0) = tt ∧ ((mN c : Int) == c) = tt := by
    by_cases h : q = 0
    · exact ⟨true, by simpa using h, by simpa using hchk.1 h⟩
    · exact ⟨false, by simpa using h, by simpa using fun e => h (hchk.2 e)⟩
  have hlc := lst_len c 8
  have L1 := hid fun W => clist_any c W
  have P1 := hid fun v W h => cof_any v (lst c 8) W h
  rw [HX.out.1, HX.out.2] at P1
  generalize lst c 8 = lc at *
  generalize mN c = m at *
  clear hT hwc hw0 hs hl1 hv0 hwz hsm hchk hq HX hl2
  go_enter Tryd.func7, Tryd.ntmps7
  go_wp2_with fail
  refine HW.out.mono ?_
  rintro e w1 ⟨rfl, f1⟩
  go_wp2_with fail
  refine (L1.out w1).mono ?_
  rintro e w2 ⟨v2, rfl, hr2, f2, _⟩
  have HA2 := hid (f1.trans f2)
  have HV2 := hid (Vw.of_row hr2)
  obtain ⟨ao2, cap2, rfl, _⟩ := row_form hr2
  clear hr2 f1 f2
  go_wp2_with fail
  refine (P1.out _ w2 HV2.out).mono ?_
  rintro e w3 ⟨rfl, rfl⟩
  go_wp2_with fail
  go_loopw [7, 8] (fun x i wr => ∃ k : Nat, k ≤ len ∧ i = .int .i64 k ∧ wr.ownsRow 0 3 1 x k ((nodes (xs.take k)).map (.int .i64)) ∧ Fr (fun _ => False) w wr ∧ Above w.heap.size (footOf x)) (fun _ i _ => len - (intOf i).toNat)
  case atStart => exact ⟨0, by omega, rfl, World.ownsRow_nil _ _ _ _, HA2.out, fun b hb => by simp [footOf, Value.ownBlock] at hb⟩
  case round =>
    obtain ⟨k, hk, rfl, hr, hf, hab⟩ := hrel
    have HR := hid hr
    have HF := hid hf
    have HAB := hid hab
    by_cases hlt : k < len
    · have hkl : k < xs.length := by rw [← HN.out]; exact hlt
      obtain ⟨b, off, rfl, _, hc0⟩ := HCL.out k hkl
      have hwy := HWZ.out (xs.getD k 0) (by rw [getD_of hkl]; exact List.getElem_mem _)
      have HNT := hid (nodes_take hkl)
      generalize xs.getD k 0 = y at *
      have hc1 := cell_fr hf hc0
      have hbb := bring_bd y 8 (by decide)
      clear hr hf hab hc0 hkl
      go_wp2_with fail
      refine (bring_any y 8 wr hwy.1 hwy.2 (by decide) (by decide)).mono ?_
      rintro e w4 ⟨rfl, rfl⟩
      generalize bring y 8 = u at *
      go_wp2_with (at_builtin; refine wpList_append_row rfl _ _ 22 rfl 3 i0 (.int .i64 0) 1 8 Tryd.underlying22 i1 i2 i3 i4 rfl (by decide) _ k ((nodes (xs.take k)).map (.int .i64)) rfl (HR.out.alloc _) ⟨wr.heap.size, 0, none⟩ 1 1 [.int .i64 (1 + u)] rfl rfl (one_new _ _ _) (one_int _ _) ?c3 ?c4 ?_)
      case c3 => unfold maxLen; omega
      case c4 => omega
      intro v' w5 hown hfr hgr _
      have hf2 : Fr (fun _ => False) w w5 := (HF.out.alloc _).own hfr HAB.out
      have hz := HF.out.size
      have hab2 : Above w.heap.size (footOf v') := fun b hb => by
        rcases hgr b hb with h | h
        · exact HAB.out b h
        · simp at h; omega
      go_wp2_with fail
      go_roundw
      case rel =>
        refine ⟨k + 1, by omega, by go_num, ?_, hf2, hab2⟩
        rw [HNT.out, List.map_append]
        exact hown
      case measure => simp [intOf]; omega
    · have hkn : k = len := by omega
      have HTK : Hid (xs.take k = xs) := hid (by rw [hkn, HN.out, List.take_length])
      rw [HTK.out] at HR
      have HBN := hid (back_n xs)
      have hyl := orL_lt (nodes_in xs)
      have hye := orL_even (nodes_in xs)
      have hsm := small_of hyl hye
      have HVN := hid (Vw.of_row HR.out)
      have HNL : Hid ((nodes xs).length = len) := hid (by unfold nodes; rw [List.length_map, ← HN.out])
      have HOR := hid fun i h => or_has (nodes_in xs) i h
      have HLEN := hid (back_len xs)
      have P2 := hid fun v W h => cof_any v (nodes xs) W h
      rw [HBN.out.1, HBN.out.2] at P2
      generalize nodes xs = ns at *
      generalize orL ns = Y at *
      have HCY := hid fun W => check_c (Y : Int) 0 W (by rw [hsm.1]; rfl)
      have LY := hid fun W => clist_any (Y : Int) W
      have CY := hid fun W => count_any (Y : Int) W
      have HLT := hid (lst_lt (Y : Int))
      have HHS := hid (lst_has (Y : Int))
      have hly := lst_len (Y : Int) 8
      have HIN := hid (lst_in (Y : Int) 8 (by decide))
      generalize lst (Y : Int) 8 = ly at *
      obtain ⟨ao7, cap7, hv7⟩ : ∃ ao cap, u7 = .slice ao k cap := by
        obtain ⟨ao, cap, h, _⟩ := row_form HR.out
        exact ⟨ao, cap, h⟩
      subst hv7
      clear hr hf hab hsm hyl hye
      subst hkn
      go_wp2_with fail
      refine (P2.out _ wr HVN.out).mono ?_
      rintro e w4 ⟨rfl, rfl⟩
      go_wp2_with fail
      refine (HCX.out wr).mono ?_
      rintro e w5 ⟨rfl, rfl⟩
      go_wp2_with fail
      refine (HCY.out wr).mono ?_
      rintro e w5 ⟨rfl, rfl⟩
      go_wp2_with fail
      refine (HCC.out wr).mono ?_
      rintro e w5 ⟨rfl, rfl⟩
      go_wp2_with fail
      refine (LY.out wr).mono ?_
      rintro e w6 ⟨v6, rfl, hr6, f6, _⟩
      have HV6 := hid (Vw.of_row hr6)
      have HF6 := hid (HF.out.trans f6)
      have HVN6 := hid (HVN.out.keep0 f6)
      obtain ⟨n6, hn6⟩ : ∃ n6, n6 = ly.length := ⟨_, rfl⟩
      have HN6 := hid hn6
      obtain ⟨ao6, cap6, rfl, _⟩ := row_form hr6
      have HC6 : Hid (∀ i, i < ly.length → ∃ b off, ao6 = some ⟨b, off, none⟩ ∧ b < w6.heap.size ∧ w6.cell? ⟨b, off + i, none⟩ = some (.int .i64 (ly.getD i 0))) := hid (by
        obtain ⟨_, _, he, _, _, _, hcell⟩ := HV6.out
        injection he with he1 _ _
        subst he1
        exact hcell)
      rw [← hn6] at hly ⊢
      clear hr6 f6 hn6
      go_wp2_with fail
      go_loopw [12] (fun i wq => ∃ j : Nat, j ≤ n6 ∧ i = .int .i64 j ∧ Fr (fun _ => False) w6 wq) (fun i _ => n6 - (intOf i).toNat)
      case atStart => exact ⟨0, by omega, rfl, Fr.refl _ _⟩
      case round =>
        obtain ⟨j, hj, rfl, hfj⟩ := hrel
        obtain ⟨wq, hwq⟩ : ∃ wq, wq = wr := ⟨_, rfl⟩
        subst hwq
        have HFJ := hid hfj
        by_cases hjl : j < n6
        · have hjn : j < ly.length := by rw [← HN6.out]; exact hjl
          obtain ⟨b, off, rfl, _, hc0⟩ := HC6.out j hjn
          have hh := HHS.out j hjn
          have HP : Hid (0 < j → ∃ x : Int, wq.cell? ⟨b, off + (j - 1), none⟩ = some (.int .i64 x) ∧ ¬ ly.getD j 0 ≤ x) := hid (fun h0 => by
            obtain ⟨b', off', he, _, hc1⟩ := HC6.out (j - 1) (by omega)
            injection he with he
            injection he with he1 he2 _
            subst he1
            subst he2
            exact ⟨_, cell_fr hfj hc1, by have := HLT.out j h0 hjn; omega⟩)
          have hc2 := cell_fr hfj hc0
          generalize ly.getD j 0 = x at *
          have HQ := hid fun W => (has_c (Y : Int) x true W hh).mono (R' := fun e w' => e = .returned (.bool true) ∧ w' = W) fun e w' q => ⟨q.1, q.2.symm⟩
          have j0 : (0 : Int) ≤ (j : Int) := by omega
          have j1 : (j : Int) < (n6 : Int) := by omega
          have j2 : ¬ ((n6 : Int) ≤ (j : Int)) := by omega
          clear hjn hc0 hh hfj
          by_cases hj0 : j = 0
          · subst hj0
            rw [Nat.add_zero] at hc2
            go_wp2_with fail
            go_quiet ((go_at_call 19; refine Calls.quiet_of_same (HQ.out _)))
            go_wp2_with fail
            go_roundw
            case rel => exact ⟨1, by omega, by go_num, fr_drewN HFJ.out _⟩
            case measure => simp [intOf]; omega
          · obtain ⟨y, hy, hxy⟩ := HP.out (by omega)
            have k0 : (0 : Int) < (j : Int) := by omega
            obtain ⟨p, hp⟩ : ∃ p : Nat, (p : Int) = (j : Int) - 1 := ⟨j - 1, by omega⟩
            have hpj : j - 1 = p := by omega
            rw [hpj] at hy
            have p0 : (0 : Int) ≤ (p : Int) := by omega
            have p1 : (p : Int) < (n6 : Int) := by omega
            have p2 : ¬ ((n6 : Int) ≤ (p : Int)) := by omega
            have hp' : (j : Int) - 1 = (p : Int) := hp.symm
            have hpw : IntKind.i64.wrap ((j : Int) - 1) = (p : Int) := by rw [hp']; exact wrap_i64_nat p (by omega)
            have hpt : ((p : Int)).toNat = p := by simp
            have kn : 0 < j := by omega
            have kd : decide ((0 : Int) < (j : Int)) = true := decide_eq_true k0
            clear hp hpj hj0 hp'
            go_wp2_with fail
            go_quiet ((go_at_call 19; refine Calls.quiet_of_same (HQ.out _)))
            go_wp2_with fail
            go_roundw
            case rel => exact ⟨j + 1, by omega, by go_num, fr_drewN HFJ.out _⟩
            case measure => simp [intOf]; omega
        · have hjn : j = n6 := by omega
          have HFQ := hid (HF6.out.trans hfj)
          have HVQ := hid (HVN6.out.keep0 hfj)
          have HC7 : Hid (∀ i, i < ns.length → ∃ b off, ao7 = some ⟨b, off, none⟩ ∧ b < wq.heap.size ∧ wq.cell? ⟨b, off + i, none⟩ = some (.int .i64 (ns.getD i 0))) := hid (by
            obtain ⟨_, _, he, _, _, _, hcell⟩ := HVQ.out
            injection he with he1 _ _
            subst he1
            exact hcell)
          clear hfj
          subst hjn
          go_wp2_with fail
          go_loopw [13] (fun i wp => ∃ x : Nat, x ≤ k ∧ i = .int .i64 x ∧ wq = wp) (fun i _ => k - (intOf i).toNat)
          case atStart => exact ⟨0, by omega, rfl, rfl⟩
          case round =>
            obtain ⟨x, hx, rfl, rfl⟩ := hrel
            by_cases hxl : x < k
            · have hxn : x < ns.length := by rw [HNL.out]; exact hxl
              obtain ⟨b, off, rfl, _, hc0⟩ := HC7.out x hxn
              have hh := HOR.out x hxn
              generalize ns.getD x 0 = y at *
              clear hxn
              go_wp2_with fail
              refine (has_c (Y : Int) y true wq hh).mono ?_
              rintro e wy ⟨rfl, rfl⟩
              go_wp2_with fail
              go_roundw
              case rel => exact ⟨x + 1, by omega, by go_num, by first | rfl | trivial⟩
              case measure => simp [intOf]; omega
            · have hxk : x = k := by omega
              have hlen2 : j ≤ k := by have := HLEN.out; rw [← HN6.out, ← HN.out] at this; exact this
              rw [← HN6.out] at CY
              subst hxk
              go_wp2_with fail
              refine (CY.out wq).mono ?_
              rintro e wy ⟨rfl, rfl⟩
              go_wp2_with fail
              go_ret
              exact ⟨rfl, HFQ.out.below (Nat.le_refl _) (fun _ h => h.elim)⟩
end Go.Proofs.YtkdlgfjpbcgnnaaDoor
