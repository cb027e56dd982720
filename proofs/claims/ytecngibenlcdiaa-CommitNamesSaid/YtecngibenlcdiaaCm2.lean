/-
  WHAT entryMay, members, Check OF commit ANSWER. Conditions: none.
-/
import Derived.Test.YtecngibenlcdiaaCm1
namespace Go.Proofs.Ytecngibenlcdiaa
open Go.RowKit Go.ChangeShapes Go.WideShapes Go.Deep

set_option maxRecDepth 100000 in
theorem entrymay_any (x : Ent) (w : World) : Calls Try.prog 38 #[x.agg] w fun e w' => e = .returned (.bool (okE x)) ∧ Fr (fun _ => False) w w' := by
  obtain ⟨n, s, r, a, h, c⟩ := x
  have HV : Hid (okE ⟨n, s, r, a, h, c⟩ = (okR s r && inV h 0 9007199254740991 && inV a 0 h && inV c 0 9007199254740991)) := hid rfl
  show Calls Try.prog 38 #[.agg #[.int .i64 n, .int .i64 s, .int .i64 r, .int .i64 a, .int .i64 h, .int .i64 c]] w _
  generalize okE ⟨n, s, r, a, h, c⟩ = o at *
  have C1 := hid (fun W => ringmay_any s r W)
  have C2 := hid (fun W => within_any h 0 9007199254740991 W)
  have C3 := hid (fun W => within_any a 0 h W)
  have C4 := hid (fun W => within_any c 0 9007199254740991 W)
  generalize okR s r = x1 at *
  generalize inV h 0 9007199254740991 = x2 at *
  generalize inV a 0 h = x3 at *
  generalize inV c 0 9007199254740991 = x4 at *
  have HB := Blk.new w #[.int .i64 n, .int .i64 s, .int .i64 r, .int .i64 a, .int .i64 h, .int .i64 c] 28
  have HF := (Fr.refl (fun _ => False) w).alloc (.cells #[.int .i64 n, .int .i64 s, .int .i64 r, .int .i64 a, .int .i64 h, .int .i64 c] 28)
  go_enter Try.func38, Try.ntmps38
  go_wp2_with fail
  generalize (w.alloc (.cells #[.int .i64 n, .int .i64 s, .int .i64 r, .int .i64 a, .int .i64 h, .int .i64 c] 28)) = w1 at *
  generalize w.heap.size = p at *
  have PS : Hid (∀ W, Fr (fun _ => False) w1 W → W.cell? ⟨p, 1, none⟩ = some (.int .i64 s) ∧ W.cell? ⟨p, 1 + 1, none⟩ = some (.int .i64 r) ∧ W.cell? ⟨p, 3, none⟩ = some (.int .i64 a) ∧ W.cell? ⟨p, 4, none⟩ = some (.int .i64 h) ∧ W.cell? ⟨p, 5, none⟩ = some (.int .i64 c)) := hid (fun W f => by
    have hb := HB.keep f (fun h => h)
    exact ⟨hb.cell 1 rfl, hb.cell 2 rfl, hb.cell 3 rfl, hb.cell 4 rfl, hb.cell 5 rfl⟩)
  have HH := hid HF
  clear HB HF
  have hacc := Fr.refl (fun _ => False) w1
  obtain ⟨p1, p2, p3, p4, p5⟩ := PS.out _ hacc
  cases x1 <;> cases x2 <;> cases x3 <;> cases x4 <;>
  · go_wp2_with (first
      | (go_at_call 36; with_reducible refine (C1.out _).mono ?_; rintro e w2 ⟨rfl, f2⟩; obtain ⟨p1, p2, p3, p4, p5⟩ := PS.out _ f2)
      | (go_at_call 37; with_reducible refine (C2.out _).mono ?_; rintro e w3 ⟨rfl, f3⟩; obtain ⟨p1, p2, p3, p4, p5⟩ := PS.out _ (f2.trans f3))
      | (go_at_call 37; with_reducible refine (C3.out _).mono ?_; rintro e w4 ⟨rfl, f4⟩; obtain ⟨p1, p2, p3, p4, p5⟩ := PS.out _ ((f2.trans f3).trans f4))
      | (go_at_call 37; with_reducible refine (C4.out _).mono ?_; rintro e w5 ⟨rfl, f5⟩))
    go_ret
    exact ⟨ret_bool (by rw [HV.out]; rfl), by first | exact HH.out.trans (((f2.trans f3).trans f4).trans f5) | exact HH.out.trans ((f2.trans f3).trans f4) | exact HH.out.trans (f2.trans f3) | exact HH.out.trans f2⟩

/-- The members, as a list; none, if they may not be. -/
def mem (c : Cm) : List Int := if chkV c.m then [] else lst c.m 8
set_option maxRecDepth 100000 in
theorem members_any (c : Cm) (v : Value) (w : World) : Calls Try.prog 35 #[cv c v] w fun e w' => ∃ u, e = .returned u ∧ w'.ownsRow 0 3 1 u (mem c).length ((mem c).map (.int .i64)) ∧ Fr (fun _ => False) w w' ∧ Above w.heap.size (footOf u) := by
  obtain ⟨s, r, m, h, L⟩ := c
  show Calls Try.prog 35 #[.agg #[.int .i64 s, .int .i64 r, .int .i64 m, .int .i64 h, v]] w _
  unfold mem
  have H1 := hid (fun W => check_any m W)
  have H2 := hid (fun W => clist_any m W)
  cases hc : chkV m with
  | true =>
    rw [hc] at H1
    go_enter Try.func35, Try.ntmps35
    go_wp2_with (go_at_call 48; with_reducible refine (H1.out _).mono ?_; rintro e w2 ⟨rfl, rfl⟩)
    go_ret
    exact ⟨_, rfl, World.ownsRow_nil _ _ _ _, (Fr.refl _ _).alloc _, fun b hb => by simp [footOf, Value.ownBlock] at hb⟩
  | false =>
    rw [hc] at H1
    go_enter Try.func35, Try.ntmps35
    go_wp2_with (first
      | (go_at_call 48; with_reducible refine (H1.out _).mono ?_; rintro e w2 ⟨rfl, rfl⟩)
      | (go_at_call 25; with_reducible refine (H2.out _).mono ?_; rintro e w3 ⟨u, rfl, hr, hf, hab⟩; obtain ⟨ao, cap, rfl⟩ := rowN_shape hr))
    go_ret
    exact ⟨_, rfl, hr, ((Fr.refl _ _).alloc _).trans hf, fun b hb => Nat.le_trans (by simp) (hab b hb)⟩

/-! ### Check -/
def okAt (c : Cm) (i : Nat) : Bool := decide ((c.L.getD i ez).n = (mem c).getD i 0) && okE (c.L.getD i ez)
def okHead (c : Cm) : Bool := decide ((mem c).length ≠ 0) && okR c.s c.r && decide (c.r = (mem c).getD 0 0) && inV c.h 1 (2 * (mem c).length) && decide ((c.L.length : Int) = if ((mem c).length : Int) < c.h then ((mem c).length : Int) else c.h)
def okC (c : Cm) : Bool := okHead c && (List.range c.L.length).all (okAt c)
theorem mem_len (c : Cm) : (mem c).length ≤ 8 := by
  unfold mem
  split
  · simp
  · exact lst_len c.m 8
theorem okC_head {c : Cm} (h : okHead c = false) : okC c = false := by unfold okC; rw [h]; rfl
theorem okC_at {c : Cm} {i : Nat} (hi : i < c.L.length) (h : okAt c i = false) : okC c = false := by
  unfold okC
  rw [Bool.and_eq_false_iff]
  refine .inr ?_
  rw [List.all_eq_false]
  exact ⟨i, List.mem_range.2 hi, by simp [h]⟩
theorem okC_all {c : Cm} (h1 : okHead c = true) (h : ∀ i, i < c.L.length → okAt c i = true) : okC c = true := by
  unfold okC
  rw [h1, Bool.true_and, List.all_eq_true]
  exact fun i hi => h i (List.mem_range.1 hi)

end Go.Proofs.Ytecngibenlcdiaa
