/-
  THE WALK OF CrewOf. Conditions: the table of math/bits as its initialiser lays it; the list's room as the form's reach says.
-/
import Derived.Test.YtkdlgfjpbcgnnaaDoorCTells
namespace Go.Proofs.YtkdlgfjpbcgnnaaDoor
open Go.RowKit

theorem row_put {w : World} {e : TypeId} {g n cap : Nat} {zs : List Int} (h : w.ownsRow 0 e 1 (.slice (some ⟨g, 0, none⟩) n cap) n (zs.map (.int .i64))) (i : Nat) (z : Int) :
    ∃ ys : List Int, (w.setCell ⟨g, i, none⟩ (.int .i64 z)).ownsRow 0 e 1 (.slice (some ⟨g, 0, none⟩) n cap) n (ys.map (.int .i64)) := by
  have := row_set h i (.int .i64 z)
  rw [← List.map_set] at this
  exact ⟨_, this⟩

set_option maxRecDepth 100000 in
set_option maxHeartbeats 2000000 in
theorem of_walk (a : Option Addr) (len cap : Nat) (z : List Int) (w : World) (hT : TabW w) (hw0 : IsRow .i64 w a len cap z) (hs : cap * 8 ≤ 140737488351232) : Calls Tryd.prog 3 #[.slice a len cap] w fun e w' => e = .returned (.bool true) ∧ Below w.heap.size w w' := by
  have HT := hid hT
  have hv0 := Vw.of_is hw0
  have hl : (z.take len).length ≤ cap := by
    obtain ⟨_, c, he, h1, _⟩ := id hv0
    injection he with _ _ e3
    subst e3; exact h1
  have hl2 : (z.take len).length ≤ 17592186044416 := by omega
  generalize z.take len = xs at *
  have HV0 := hid hv0
  clear hT hw0 hs hl hv0
  obtain ⟨c, hc⟩ : ∃ c, ofC xs = c := ⟨_, rfl⟩
  obtain ⟨er, her⟩ : ∃ er, ofE xs = er := ⟨_, rfl⟩
  go_enter Tryd.func3, Tryd.ntmps3
  go_wp2_with fail
  refine (copyInts_any _ xs w HV0.out hl2).mono ?_
  rintro e w1 ⟨v1, rfl, hr1, f1, _⟩
  have HV1 := hid (Vw.of_row hr1)
  have HA1 := hid f1
  have R1 := hid (rof_any _ xs w1 (HV0.out.keep0 f1))
  have P1 := hid (cof_any _ xs w1 HV1.out)
  rw [hc, her] at R1 P1
  clear hr1 f1 hc her
  go_wp2_with fail
  refine P1.out.mono ?_
  rintro e w2 ⟨rfl, rfl⟩
  go_wp2_with fail
  refine R1.out.mono ?_
  rintro e w2 ⟨rfl, rfl⟩
  go_wp2_with fail
  refine (eq_c _ _ xs xs true w1 HV1.out (HV0.out.keep0 HA1.out) (decide_eq_true rfl)).mono ?_
  rintro e w2 ⟨rfl, f2⟩
  have HA2 := hid (HA1.out.trans f2)
  clear f2
  go_wp2_with fail
  refine (clist_any c w2).mono ?_
  rintro e w3 ⟨v3, rfl, hr3, f3, hab⟩
  have HA3 := hid (HA2.out.trans f3)
  have HAB : Hid (Above w.heap.size (footOf v3)) := hid (fun k hk => Nat.le_trans HA2.out.size (hab k hk))
  have HR3 := hid hr3
  obtain ⟨n3, hn3⟩ : ∃ n3, n3 = (lst c 8).length := ⟨_, rfl⟩
  have hn8 : n3 ≤ 8 := by rw [hn3]; exact lst_len c 8
  rw [← hn3] at HR3
  obtain ⟨ao3, cap3, hv3⟩ : ∃ ao cap, v3 = .slice ao n3 cap := by
    obtain ⟨ao, cap, q, _⟩ := row_form HR3.out
    exact ⟨ao, cap, q⟩
  subst hv3
  have HL := hid fun W => list_c c (lst c 8) W rfl
  have HL2 := hid fun W => rlist_any c W
  generalize lst c 8 = zs at *
  clear hr3 f3 hab hn3
  go_wp2_with fail
  go_loopw [9] (fun i wr => ∃ k : Nat, k ≤ n3 ∧ i = .int .i64 k ∧ (∃ ys : List Int, wr.ownsRow 0 3 1 (.slice ao3 n3 cap3) n3 (ys.map (.int .i64))) ∧ Fr (fun _ => False) w wr) (fun i _ => n3 - (intOf i).toNat)
  case atStart => exact ⟨0, by omega, rfl, ⟨_, HR3.out⟩, HA3.out⟩
  case round =>
    obtain ⟨k, hk, rfl, ⟨ys, hr⟩, hf⟩ := hrel
    have HF := hid hf
    by_cases hlt : k < n3
    · obtain ⟨_, _, he, _, _, hly, hcells⟩ := row_form hr
      injection he with he1 _ he3
      subst he1
      subst he3
      obtain ⟨g, hgg, hg', hc', hz'⟩ := hcells k hlt
      subst hgg
      rw [ints_get (by simpa using (show k < ys.length by simp at hly; omega))] at hc'
      have HP := hid (row_put hr k 99)
      have HG : Hid (w.heap.size ≤ g) := hid (HAB.out g (by simp [footOf, Value.ownBlock]))
      generalize ys.getD k 0 = y at *
      clear hr hf hcells hly
      go_wp2_with fail
      go_roundw
      case rel => exact ⟨k + 1, by omega, by go_num, HP.out, HF.out.setNew HG.out _⟩
      case measure => simp [intOf]; omega
    · have hkn : k = n3 := by omega
      clear hr hf
      subst hkn
      go_wp2_with fail
      refine (HL.out wr).mono ?_
      rintro e w4 ⟨v4, rfl, hv4, f4, _⟩
      have HV4 := hid hv4
      have HA4 := hid (HF.out.trans f4)
      clear hv4 f4
      go_wp2_with fail
      refine (HL2.out w4).mono ?_
      rintro e w5 ⟨v5, rfl, hr5, f5, _⟩
      have HV5 := hid (Vw.of_row hr5)
      have HV45 := hid (HV4.out.keep0 f5)
      have HA5 := hid (HA4.out.trans f5)
      clear hr5 f5
      go_wp2_with fail
      refine (eq_c _ _ zs zs true w5 HV45.out HV5.out (decide_eq_true rfl)).mono ?_
      rintro e w6 ⟨rfl, f6⟩
      have HA6 := hid (HA5.out.trans f6)
      clear f6
      go_wp2_with fail
      refine (works_any w6 (HT.out.keep HA6.out)).mono ?_
      rintro e w7 ⟨rfl, f7⟩
      go_wp2_with fail
      go_ret
      exact ⟨rfl, (HA6.out.trans f7).below (Nat.le_refl _) (fun _ h => h.elim)⟩
end Go.Proofs.YtkdlgfjpbcgnnaaDoor
