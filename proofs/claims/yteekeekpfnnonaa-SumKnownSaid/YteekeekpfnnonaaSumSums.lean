/-
  THE WALK OF THE LAW SumSums. Conditions: at most 2^47 - 4096 bytes.
-/
import Derived.Test.YteekeekpfnnonaaSumThree
import Derived.Test.YteekeekpfnnonaaSumBack
import Derived.Test.YteekeekpfnnonaaROf
namespace Go.Proofs.Yteekeekpfnnonaa
open Go.RowKit

theorem openR_byte {zs : List Int} (h : AllB zs) : AllB (openR zs).1 := by
  rcases openR_back zs with ⟨k, _, he⟩ | ⟨d, he, _, hd⟩
  · rw [he]; exact AllB.nil
  · rw [he, hd]; exact h.take _
theorem row_put {w : World} {e : TypeId} {ao : Option Addr} {n cap : Nat} {zs : List Int} (h : w.ownsRow 0 e 1 (.slice ao n cap) n (zs.map (.int .u8))) {g : Nat} (hg : ao = some ⟨g, 0, none⟩) (i : Nat) (z : Int) :
    ∃ ys : List Int, (w.setCell ⟨g, i, none⟩ (.int .u8 z)).ownsRow 0 e 1 (.slice ao n cap) n (ys.map (.int .u8)) := by
  subst hg
  have := row_set h i (.int .u8 z)
  rw [← List.map_set] at this
  exact ⟨_, this⟩

set_option maxRecDepth 100000 in
set_option maxHeartbeats 4000000 in
theorem sums_core (v : Value) (zs : List Int) (w : World) (hv : Vw .u8 w v zs) (hb : AllB zs) (hl : zs.length ≤ 140737488351232) :
    Calls Try.prog 3 #[v] w fun e w' => e = .returned (.bool true) ∧ Fr (fun _ => False) w w' := by
  obtain ⟨ao, cap, rfl, a1, a2, a3, a4⟩ := id hv
  have HV := hid hv
  have HB := hid hb
  have HL := hid hl
  have HSL : Hid ((sealed zs).length = zs.length + 4) := hid (sealed_len zs)
  clear hv hb hl a1 a2 a3 a4
  go_enter Try.func3, Try.ntmps3
  go_wp2_with fail
  refine (copyBytes_any _ zs w HV.out (by have := HL.out; omega)).mono ?_
  rintro e w1 ⟨v1, rfl, r1, f1, _⟩
  have RW1 := hid r1
  have HS01 := hid f1.size
  go_wp2_with fail
  refine (seal_any _ zs w1 (Vw.of_row r1) HB.out (by have := HL.out; omega)).mono ?_
  rintro e w2 ⟨v2, rfl, r2, f2, t2⟩
  obtain ⟨M, hM⟩ : ∃ M, M = zs.length + 4 := ⟨_, rfl⟩
  rw [← hM] at r2
  have HM := hid hM
  obtain ⟨g, c2, rfl, hg, hc2⟩ := row_some r2 (by omega)
  have hgw : w1.heap.size ≤ g := t2 g (by simp [footOf, Value.ownBlock])
  clear hM
  have f12 := f1.trans f2
  have L1 := hid (row_live r1)
  have HGW := hid hgw
  replace r1 := row_keep r1 f2 (fun _ _ h => h)
  clear t2 hg hc2 hgw
  go_wp2_with fail
  refine (of_any _ zs w2 (Vw.of_row r1) HB.out).mono ?_
  rintro e w3 ⟨rfl, f3⟩
  have g3 := f12.trans f3
  go_wp2_with fail
  refine (rof_any _ zs w3 (HV.out.keep0 g3) HB.out).mono ?_
  rintro e w4 ⟨rfl, rfl⟩
  generalize crc (nb zs) = cc at *
  go_wp2_with fail
  refine (rseal_any _ zs w4 (HV.out.keep0 g3) HB.out (by have := HL.out; omega)).mono ?_
  rintro e w5 ⟨v5, rfl, r5, f5, _⟩
  have g5 := g3.trans f5
  have f25 := f3.trans f5
  replace r1 := row_keep r1 f25 (fun _ _ h => h)
  replace r2 := row_keep r2 f25 (fun _ _ h => h)
  go_wp2_with fail
  refine (eqBytes_any _ _ (sealed zs) (sealed zs) w5 (Vw.of_row r2) (Vw.of_row r5) (sealed_byte HB.out) (sealed_byte HB.out)).mono ?_
  rintro e w6 ⟨rfl, f6⟩
  have g6 := g5.trans f6
  replace r1 := row_keep r1 f6 (fun _ _ h => h)
  replace r2 := row_keep r2 f6 (fun _ _ h => h)
  rw [dec_self]
  go_wp2_with fail
  refine (eqBytes_any _ _ zs zs w6 (Vw.of_row r1) (HV.out.keep0 g6) HB.out HB.out).mono ?_
  rintro e w7 ⟨rfl, f7⟩
  have g7 := g6.trans f7
  have f17 := f2.trans (f25.trans (f6.trans f7))
  replace r1 := row_keep r1 f7 (fun _ _ h => h)
  replace r2 := row_keep r2 f7 (fun _ _ h => h)
  rw [dec_self]
  clear f1 f2 f3 f5 f6 f7 f12 f25 g3 g5 g6 r5
  have g7s : Fr (fun _ => False) w7 (w7.alloc (Obj.cells #[Value.slice ao zs.length cap, Value.slice (some ⟨g, 0, none⟩) M c2] 22)) := (Fr.refl _ w7).alloc _
  have HX : Hid (∀ k, k < 2 → ∃ xo xc, ∃ xs : List Int, (w7.alloc (Obj.cells #[Value.slice ao zs.length cap, Value.slice (some ⟨g, 0, none⟩) M c2] 22)).cell? ⟨w7.heap.size, k, none⟩ = some (.slice xo xs.length xc) ∧
      Vw .u8 (w7.alloc (Obj.cells #[Value.slice ao zs.length cap, Value.slice (some ⟨g, 0, none⟩) M c2] 22)) (.slice xo xs.length xc) xs ∧ AllB xs ∧ xs.length ≤ 140737488355328) := hid (fun k hk => by
    have hB := Blk.new w7 #[Value.slice ao zs.length cap, Value.slice (some ⟨g, 0, none⟩) M c2] 22
    have : k = 0 ∨ k = 1 := by omega
    rcases this with rfl | rfl
    · exact ⟨ao, cap, zs, hB.cell 0 rfl, HV.out.keep0 (g7.trans g7s), HB.out, by have := HL.out; omega⟩
    · refine ⟨some ⟨g, 0, none⟩, c2, sealed zs, ?_, ?_, sealed_byte HB.out, by have := HL.out; have := HM.out; rw [HSL.out]; omega⟩
      · rw [HSL.out, ← HM.out]; exact hB.cell 1 rfl
      · rw [HSL.out, ← HM.out]; exact Vw.of_row (row_keep r2 g7s (fun _ _ h => h)))
  have gS := g7.trans g7s
  have f1S := f17.trans g7s
  replace r1 := row_keep r1 g7s (fun _ _ h => h)
  replace r2 := row_keep r2 g7s (fun _ _ h => h)
  go_wp2_with fail
  clear g7s g7 f17
  generalize (w7.alloc (Obj.cells #[Value.slice ao zs.length cap, Value.slice (some ⟨g, 0, none⟩) M c2] 22)) = wS at *
  generalize w7.heap.size = B at *
  go_loopw [40] (fun i wr => ∃ k : Nat, k ≤ 2 ∧ i = .int .i64 k ∧ Fr (fun _ => False) wS wr) (fun i _ => 2 - (intOf i).toNat)
  case atStart => exact ⟨0, by omega, rfl, Fr.refl _ _⟩
  case round =>
    obtain ⟨k, hk, rfl, hf⟩ := hrel
    by_cases hlt : k < 2
    · obtain ⟨xo, xc, xs, hcell, hview, hbytes, hlen⟩ := HX.out k hlt
      replace hcell := cell_fr hf hcell
      replace hview := hview.keep0 hf
      have hxl := hview.len
      have HVX := hid hview
      have HBX := hid hbytes
      have HLX := hid hlen
      clear hview hbytes hlen
      go_wp2_with fail
      refine (copyBytes_any _ xs wr HVX.out HLX.out).mono ?_
      rintro e w8 ⟨y, rfl, ry, f8, _⟩
      have RY8 := hid ry
      go_wp2_with fail
      refine (open_any _ xs w8 (Vw.of_row ry) HBX.out HLX.out).mono ?_
      rintro e w9 ⟨c, rfl, rc, f9, tc⟩
      have f89 := f8.trans f9
      have tc8 : Above wr.heap.size (footOf c) := fun b hb => Nat.le_trans f8.size (tc b hb)
      go_wp2_with fail
      refine (ropen_any _ xs w9 (HVX.out.keep0 f89) HBX.out HLX.out).mono ?_
      rintro e w10 ⟨d, rfl, rd, f10, _⟩
      have hcb := openR_byte HBX.out
      generalize (openR xs).1 = cs at *
      generalize (openR xs).2 = en at *
      replace rc := row_keep rc f10 (fun _ _ h => h)
      have h9 := f9.trans f10
      have h8 := f8.trans h9
      replace ry := row_keep ry h9 (fun _ _ h => h)
      go_wp2_with fail
      refine (eqBytes_any _ _ cs cs w10 (Vw.of_row rc) (Vw.of_row rd) hcb hcb).mono ?_
      rintro e w11 ⟨rfl, f11⟩
      replace rc := row_keep rc f11 (fun _ _ h => h)
      replace ry := row_keep ry f11 (fun _ _ h => h)
      replace h9 := h9.trans f11
      replace h8 := h8.trans f11
      rw [dec_self]
      go_wp2_with fail
      refine (eqBytes_any _ _ xs xs w11 (Vw.of_row ry) (HVX.out.keep0 h8) HBX.out HBX.out).mono ?_
      rintro e w12 ⟨rfl, f12⟩
      replace rc := row_keep rc f12 (fun _ _ h => h)
      replace ry := row_keep ry f12 (fun _ _ h => h)
      replace h9 := h9.trans f12
      replace h8 := h8.trans f12
      rw [dec_self]
      clear f8 f9 f89 f10 f11 f12 rd
      clear ry
      obtain ⟨co, cc2, rfl, q1, q2, _⟩ := row_form rc
      have hcm : cs.length ≤ 9223372036854775807 := by unfold maxLen at q2; omega
      clear q1 q2 hcb
      have HC0 : Hid (∃ zs' : List Int, w12.ownsRow 0 5 1 (.slice co cs.length cc2) cs.length (zs'.map (.int .u8))) := hid ⟨cs, rc⟩
      clear rc
      generalize cs.length = m at *
      go_wp2_with fail
      go_loopw [12] (fun i wq => ∃ j : Nat, j ≤ m ∧ i = .int .i64 j ∧ (∃ zs' : List Int, wq.ownsRow 0 5 1 (.slice co m cc2) m (zs'.map (.int .u8))) ∧ Fr (· ∈ footOf (.slice co m cc2)) w12 wq) (fun i _ => m - (intOf i).toNat)
      case atStart => exact ⟨0, by omega, rfl, HC0.out, Fr.refl _ _⟩
      case round =>
        obtain ⟨j, hj, rfl, ⟨zs', hr⟩, hfq⟩ := hrel
        by_cases hjl : j < m
        · obtain ⟨_, _, he, _, _, hlz, hcells⟩ := row_form hr
          injection he with he1 _ he3
          subst he1
          subst he3
          obtain ⟨g', rfl, hg', hc', hz'⟩ := hcells j hjl
          rw [ints_get (by simpa using (show j < zs'.length by simp at hlz; omega))] at hc'
          generalize zs'.getD j 0 = z at *
          have HR := hid hr
          clear hr hcells hlz
          go_wp2_with fail
          go_roundw
          case rel => exact ⟨j + 1, by omega, by go_num, row_put HR.out rfl j _, hfq.setCell hg' _⟩
          case measure => simp [intOf]; omega
        · have hjm : j = m := by omega
          subst hjm
          have ho9 := Fr.own h9 hfq tc
          have ho8 := Fr.own h8 hfq tc8
          have HO := hid ho8
          clear ho8 h8 h9 hfq hr tc tc8
          have ry := row_keep RY8.out ho9 (fun _ _ h => h)
          go_wp2_with fail
          refine (eqBytes_any _ _ xs xs _ (Vw.of_row ry) (HVX.out.keep0 HO.out) HBX.out HBX.out).mono ?_
          rintro e w13 ⟨rfl, f13⟩
          rw [dec_self]
          have hend := (hf.trans HO.out).trans f13
          go_wp2_with fail
          go_roundw
          case rel => exact ⟨k + 1, by omega, by go_num, hend⟩
          case measure => simp [intOf]; omega
    · have hk2 : k = 2 := by omega
      subst hk2
      replace r1 := row_keep r1 hf (fun _ _ h => h)
      replace r2 := row_keep r2 hf (fun _ _ h => h)
      have gr := gS.trans hf
      have f1r := f1S.trans hf
      have HS0 : Hid (∃ zs' : List Int, wr.ownsRow 0 5 1 (.slice (some ⟨g, 0, none⟩) M c2) M (zs'.map (.int .u8))) := hid ⟨_, r2⟩
      have R1 := hid r1
      have hm9 : M ≤ 9223372036854775807 := by have := HL.out; have := HM.out; omega
      clear r1 r2 gS f1S hf
      go_wp2_with fail
      go_loopw [13] (fun i wq => ∃ j : Nat, j ≤ M ∧ i = .int .i64 j ∧ (∃ zs' : List Int, wq.ownsRow 0 5 1 (.slice (some ⟨g, 0, none⟩) M c2) M (zs'.map (.int .u8))) ∧ Fr (· ∈ footOf (.slice (some ⟨g, 0, none⟩) M c2)) wr wq) (fun i _ => M - (intOf i).toNat)
      case atStart => exact ⟨0, by omega, rfl, HS0.out, Fr.refl _ _⟩
      case round =>
        obtain ⟨j, hj, rfl, ⟨zs', hr⟩, hfq⟩ := hrel
        by_cases hjl : j < M
        · obtain ⟨_, _, he, _, _, hlz, hcells⟩ := row_form hr
          injection he with he1 _ he3
          subst he1
          subst he3
          obtain ⟨g', hgg, hg', hc', hz'⟩ := hcells j hjl
          injection hgg with hgg
          injection hgg with hgg _ _
          subst hgg
          rw [ints_get (by simpa using (show j < zs'.length by simp at hlz; omega))] at hc'
          generalize zs'.getD j 0 = z at *
          have HR := hid hr
          clear hr hcells hlz
          go_wp2_with fail
          go_roundw
          case rel => exact ⟨j + 1, by omega, by go_num, row_put HR.out rfl j _, hfq.setCell hg' _⟩
          case measure => simp [intOf]; omega
        · have hjm : j = M := by omega
          subst hjm
          have ha1 : Above w1.heap.size (footOf (.slice (some ⟨g, 0, none⟩) j c2)) := fun b hb => by
            simp [footOf, Value.ownBlock] at hb; subst hb; exact HGW.out
          have ha0 : Above w.heap.size (footOf (.slice (some ⟨g, 0, none⟩) j c2)) := fun b hb => Nat.le_trans HS01.out (ha1 b hb)
          have HA := hid (Fr.own f1r hfq ha1)
          have gq := Fr.own gr hfq ha0
          clear hfq hr ha0 ha1 f1r gr
          go_wp2_with fail
          refine (eqBytes_any _ _ zs zs _ (Vw.of_row (row_keep RW1.out HA.out (fun _ _ h => h))) (HV.out.keep0 gq) HB.out HB.out).mono ?_
          rintro e w14 ⟨rfl, f14⟩
          rw [dec_self]
          have hend := gq.trans f14
          go_wp2_with fail
          refine (works_any _).mono ?_
          rintro e w15 ⟨rfl, f15⟩
          go_wp2_with fail
          go_ret
          exact ⟨rfl, hend.trans f15⟩

theorem sums_walk (a : Option Addr) (len cap : Nat) (z : List Int) (w : World) (hw : IsRow .u8 w a len cap z) (hs : cap * 1 ≤ 140737488351232) :
    Calls Try.prog 3 #[.slice a len cap] w fun e w' => e = .returned (.bool true) ∧ Below w.heap.size w w' := by
  have hc := isRow_cap hw
  exact (sums_core _ _ w (Vw.of_is hw) (AllB.of_is hw) (by omega)).mono fun e w' h => ⟨h.1, h.2.below (Nat.le_refl _) (fun _ h => h.elim)⟩
end Go.Proofs.Yteekeekpfnnonaa
