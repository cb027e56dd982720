/-
  THE DOCUMENT'S LANE: node, New, Copy, Same, Len, has. Conditions: none.
-/
import Derived.Test.YtcmdjcpbidbkjaaLBook2
namespace Go.Proofs.Ytcmdjcpbidbkjaa
open Go.RowKit

theorem rnode_any (n : Int) (w : World) : Calls Try.prog 32 #[.int .i64 n] w fun e w' => e = .returned (.bool (nodeB n)) ∧ w = w' := by
  have hcs : n < 1 ∨ (1 ≤ n ∧ 8 < n) ∨ (1 ≤ n ∧ n ≤ 8) := by omega
  rcases hcs with h1 | ⟨h1, h2⟩ | ⟨h1, h2⟩
  · have HE : Hid (nodeB n = false) := hid (by unfold nodeB; first | exact decide_eq_false (by omega) | exact decide_eq_true (by omega))
    go_enter Try.func32, Try.ntmps32
    go_wp2
    go_ret
    exact ⟨by rw [HE.out]; rfl, rfl⟩
  · have HE : Hid (nodeB n = false) := hid (by unfold nodeB; first | exact decide_eq_false (by omega) | exact decide_eq_true (by omega))
    have hd : decide (n ≤ 8) = false := decide_eq_false (by omega)
    go_enter Try.func32, Try.ntmps32
    go_wp2
    go_ret
    exact ⟨by rw [HE.out]; rfl, rfl⟩
  · have HE : Hid (nodeB n = true) := hid (by unfold nodeB; first | exact decide_eq_false (by omega) | exact decide_eq_true (by omega))
    go_enter Try.func32, Try.ntmps32
    go_wp2
    go_ret
    exact ⟨by rw [HE.out]; rfl, rfl⟩

/-- What the document's lane holds of a side. -/
def sb (side : Int) (n : Nat) : Bool := decide (¬ sideB side n = 0)
def rcells (vb : Value) (side : Int) : Array Value := #[vb, .bool (sb side 0), .bool (sb side 1), .bool (sb side 2), .bool (sb side 3), .bool (sb side 4), .bool (sb side 5), .bool (sb side 6), .bool (sb side 7), .bool (sb side 8)]
structure TW (w0 w : World) (g : Nat) (side : Int) (v : Value) (ds : List Dg) (q : Nat) (sr : Int) (vb : Value) (es : List Dg) : Prop where
  lb : LB w0 w g side v ds vb es
  rb : Blk w q (rcells vb sr) 53
  lo : w0.heap.size ≤ q
section
variable {w0 w w' : World} {g q : Nat} {side sr : Int} {v vb : Value} {ds es : List Dg}
theorem TW.qb (h : TW w0 w g side v ds q sr vb es) : q ∉ feet vb es := h.lb.bk.not_foot h.rb (by decide) (by decide)
theorem TW.qv (h : TW w0 w g side v ds q sr vb es) : q ∉ feet v ds := h.lb.la.ls.dr.not_foot h.rb (by decide) (by decide)
theorem TW.qg (h : TW w0 w g side v ds q sr vb es) : q ≠ g := fun e => by
  subst e
  exact absurd (h.lb.la.ls.blk.type h.rb) (by decide)
theorem TW.keep (h : TW w0 w g side v ds q sr vb es) (f : Fr (fun _ => False) w w') : TW w0 w' g side v ds q sr vb es := ⟨h.lb.keep f, h.rb.keep f (fun h => h), h.lo⟩
theorem TW.lane {side' : Int} {v' : Value} {ds' : List Dg} (h : TW w0 w g side v ds q sr vb es) (k : LB w0 w' g side' v' ds' vb es) (f : Fr (fun k => k = g ∨ k ∈ feet v ds) w w') : TW w0 w' g side' v' ds' q sr vb es :=
  ⟨k, h.rb.keep f (fun hk => hk.elim h.qg h.qv), h.lo⟩
end
theorem rnew_any (w : World) : Calls Try.prog 8 #[] w fun e w' => ∃ q, e = .returned (.pointer (some ⟨q, 0, none⟩)) ∧ Blk w' q (rcells (.slice none 0 0) 0) 53 ∧ Fr (fun _ => False) w w' ∧ w.heap.size ≤ q := by
  go_enter Try.func8, Try.ntmps8
  go_wp2
  go_ret
  refine ⟨_, rfl, ?_, (Fr.refl _ _).alloc _, Nat.le_refl _⟩
  have e : rcells (.slice none 0 0) 0 = #[.slice none 0 0, .bool false, .bool false, .bool false, .bool false, .bool false, .bool false, .bool false, .bool false, .bool false] := by kernel_rfl
  rw [e]
  exact Blk.new _ _ _
theorem rlen_any {w0 w : World} {g q : Nat} {side sr : Int} {v vb : Value} {ds es : List Dg} (h : TW w0 w g side v ds q sr vb es) : Calls Try.prog 23 #[.pointer (some ⟨q, 0, none⟩)] w fun e w' => e = .returned (.int .i64 (es.length : Int)) ∧ w = w' := by
  obtain ⟨ao, cap, rfl⟩ := rowN_shape h.lb.bk.row
  have c0 : w.cell? ⟨q, 0, none⟩ = some (.slice ao es.length cap) := h.rb.cell 0 rfl
  clear h
  go_enter Try.func23, Try.ntmps23
  go_wp2_with fail
  go_ret
  exact ⟨rfl, rfl⟩
theorem rhas_any {w0 w : World} {g q : Nat} {side sr : Int} {v vb : Value} {ds es : List Dg} (i : Int) (h : TW w0 w g side v ds q sr vb es) : Calls Try.prog 34 #[.pointer (some ⟨q, 0, none⟩), .int .i64 i] w fun e w' => e = .returned (.bool (decide (0 ≤ i ∧ i < (es.length : Int)))) ∧ w = w' := by
  obtain ⟨ao, cap, rfl⟩ := rowN_shape h.lb.bk.row
  have c0 : w.cell? ⟨q, 0, none⟩ = some (.slice ao es.length cap) := h.rb.cell 0 rfl
  clear h
  generalize es.length = n at *
  have hcs : i < 0 ∨ (0 ≤ i ∧ ¬ i < (n : Int)) ∨ (0 ≤ i ∧ i < (n : Int)) := by omega
  rcases hcs with h1 | ⟨h1, h2⟩ | ⟨h1, h2⟩
  · have hd : decide (0 ≤ i) = false := decide_eq_false (by omega)
    have HE : Hid (decide (0 ≤ i ∧ i < (n : Int)) = false) := hid (decide_eq_false (by omega))
    go_enter Try.func34, Try.ntmps34
    go_wp2_with fail
    go_ret
    first | exact ⟨ret_bool HE.out.symm, rfl⟩ | exact ⟨rfl, rfl⟩
  · have hd : decide (i < (n : Int)) = false := decide_eq_false h2
    have HE : Hid (decide (0 ≤ i ∧ i < (n : Int)) = false) := hid (decide_eq_false (by omega))
    go_enter Try.func34, Try.ntmps34
    go_wp2_with fail
    go_ret
    first | exact ⟨ret_bool HE.out.symm, rfl⟩ | exact ⟨rfl, rfl⟩
  · have HE : Hid (decide (0 ≤ i ∧ i < (n : Int)) = true) := hid (decide_eq_true (by omega))
    go_enter Try.func34, Try.ntmps34
    go_wp2_with fail
    go_ret
    first | exact ⟨ret_bool HE.out.symm, rfl⟩ | exact ⟨rfl, rfl⟩
theorem same_any (s1 d1 s2 d2 : Int) (u v : Value) (ys zs : List Int) (w : World) (hu : Vw .u8 w u ys) (hv : Vw .u8 w v zs) (ha : AllB ys) (hb : AllB zs) (h1 : s1 = s2) (h2 : d1 = d2) (h3 : ys = zs) :
    Calls Try.prog 15 #[.agg #[.int .i64 s1, .int .i64 d1, u], .agg #[.int .i64 s2, .int .i64 d2, v]] w fun e w' => e = .returned (.bool true) ∧ Fr (fun _ => False) w w' := by
  subst h1; subst h2; subst h3
  obtain ⟨uo, uc, rfl, _⟩ := id hu
  obtain ⟨vo, vc, rfl, _⟩ := id hv
  have f1 : Fr (fun _ => False) w ((w.alloc (.cells #[.int .i64 s1, .int .i64 d1, .slice uo ys.length uc] 30)).alloc (.cells #[.int .i64 s1, .int .i64 d1, .slice vo ys.length vc] 30)) := ((Fr.refl _ _).alloc _).alloc _
  have HP := hid ((Blk.new w #[.int .i64 s1, .int .i64 d1, .slice uo ys.length uc] 30).alloc (.cells #[.int .i64 s1, .int .i64 d1, .slice vo ys.length vc] 30))
  have hQ := Blk.new (w.alloc (.cells #[.int .i64 s1, .int .i64 d1, .slice uo ys.length uc] 30)) #[.int .i64 s1, .int .i64 d1, .slice vo ys.length vc] 30
  rw [World.size_alloc] at hQ
  have HQ := hid hQ
  have HE := hid (eqBytes_any _ _ ys ys _ (hu.keep0 f1) (hv.keep0 f1) ha hb)
  rw [show decide (ys = ys) = true by simp] at HE
  have HF := hid f1
  have p0 := HP.out.cell 0 rfl
  have p1 := HP.out.cell 1 rfl
  have p2 := HP.out.cell 2 rfl
  have q0 := HQ.out.cell 0 rfl
  have q1 := HQ.out.cell 1 rfl
  have q2 := HQ.out.cell 2 rfl
  clear hu hv ha hb f1 hQ
  go_enter Try.func15, Try.ntmps15
  go_wp2_with fail
  refine HE.out.mono ?_
  rintro e w2 ⟨rfl, f⟩
  have HF2 := hid (HF.out.trans f)
  clear f
  go_wp2_with fail
  go_ret
  exact ⟨rfl, HF2.out⟩
end Go.Proofs.Ytcmdjcpbidbkjaa
