/-
  THE DOCUMENT'S LANE: Put, Double. Conditions: none.
-/
import Derived.Test.YtcmdjcpbidbkjaaLRef2
import Derived.Deep.AppendLies
namespace Go.Proofs.Ytcmdjcpbidbkjaa
open Go.RowKit

/-- The document's lane alone was turned. -/
theorem TW.ref {w0 w w' : World} {g q : Nat} {side sr sr' : Int} {v vb vb' : Value} {ds es es' : List Dg} (h : TW w0 w g side v ds q sr vb es) (k : LB w0 w' g side v ds vb' es') (b : Blk w' q (rcells vb' sr') 53) : TW w0 w' g side v ds q sr' vb' es' := ⟨k, b, h.lo⟩
theorem Blk.vb {w : World} {q : Nat} {vb : Value} {sr : Int} (h : Blk w q (rcells vb sr) 53) (vb' : Value) : Blk (w.setCell ⟨q, 0, none⟩ vb') q (rcells vb' sr) 53 := h.set' 0 vb' rfl

theorem LB.keepS {S : Nat → Prop} {w0 w w' : World} {g : Nat} {side : Int} {v vb : Value} {ds es : List Dg} (h : LB w0 w g side v ds vb es) (f : Fr S w w') (hg : ¬ S g) (hv : ∀ k, k ∈ feet v ds → ¬ S k) (hb : ∀ k, k ∈ feet vb es → ¬ S k) (h0 : ∀ k, S k → w0.heap.size ≤ k) : LB w0 w' g side v ds vb es :=
  ⟨⟨h.la.ls.keep f hg hv, h.la.fr.step f (fun k hk hm => by have := h0 k hm; omega), h.la.lo, h.la.ab⟩, h.bk.keep f hb, h.ab, h.gs, h.sep⟩
/-- The document's lane takes the new row. -/
theorem LB.cellq {w0 w : World} {g q : Nat} {side sr : Int} {v vb vb0 : Value} {ds es : List Dg} (h : LB w0 w g side v ds vb es) (b : Blk w q (rcells vb0 sr) 53) (lo : w0.heap.size ≤ q) (vb' : Value) (e : vb' = vb := by rfl) : TW w0 (w.setCell ⟨q, 0, none⟩ vb') g side v ds q sr vb' es := by
  subst e
  have f : Fr (· = q) w (w.setCell ⟨q, 0, none⟩ vb') := (Fr.refl _ w).set1 0 _
  refine ⟨h.keepS f (fun e => ?_) (fun k hk e => ?_) (fun k hk e => ?_) (fun k e => by omega), b.vb vb', lo⟩
  · subst e; exact absurd (h.la.ls.blk.type b) (by decide)
  · subst e; exact h.la.ls.dr.not_foot b (by decide) (by decide) hk
  · subst e; exact h.bk.not_foot b (by decide) (by decide) hk

def RPutPost (w0 w : World) (g : Nat) (side : Int) (v : Value) (ds : List Dg) (q : Nat) (sr : Int) (vb : Value) (es : List Dg) (src dst : Int) (bs : List Int) (e : Ending) (w' : World) : Prop :=
  ∃ vb' u', e = .returned (.int .i64 0) ∧ TW w0 w' g side v ds q sr vb' (es ++ [⟨src, dst, u', bs⟩]) ∧ Fr (fun k => k = q ∨ k ∈ feet vb es) w w' ∧ ∀ k, k ∈ feet vb' (es ++ [⟨src, dst, u', bs⟩]) → k ∈ feet vb es ∨ w.heap.size ≤ k
set_option maxRecDepth 100000 in
set_option maxHeartbeats 2000000 in
theorem rput_good {w0 w : World} {g q : Nat} {side sr : Int} {v vb : Value} {ds es : List Dg} (src dst : Int) (u : Value) (bs : List Int) (h : TW w0 w g side v ds q sr vb es) (hu : Vw .u8 w u bs) (ha : AllB bs) (hl : bs.length ≤ 140737488355328) (h1 : nodeB src = true) (h2 : nodeB dst = true) (hn : es.length < 4096) :
    Calls Try.prog 11 #[.pointer (some ⟨q, 0, none⟩), .agg #[.int .i64 src, .int .i64 dst, u]] w (RPutPost w0 w g side v ds q sr vb es src dst bs) := by
  obtain ⟨i0, i1, i2, i3, i4⟩ := dgI
  obtain ⟨uo, uc, rfl, _⟩ := id hu
  have f1 : Fr (fun _ => False) w (w.alloc (.cells #[.int .i64 src, .int .i64 dst, .slice uo bs.length uc] 30)) := (Fr.refl _ _).alloc _
  have HP := hid (Blk.new w #[.int .i64 src, .int .i64 dst, .slice uo bs.length uc] 30)
  have HT := hid (h.keep f1)
  have HU := hid (hu.keep0 f1)
  have HF1 := hid f1
  have HA := hid ha
  have N1 := hid fun W => rnode_any src W
  have N2 := hid fun W => rnode_any dst W
  obtain ⟨ao, cap, rfl⟩ := rowN_shape h.lb.bk.row
  have hn' : ¬ (4096 : Int) ≤ (es.length : Int) := by omega
  have hlk : es.length ≤ 4095 := by omega
  clear h hu ha f1 hn
  go_enter Try.func11, Try.ntmps11
  go_wp2_with fail
  generalize hW1 : w.alloc (.cells #[.int .i64 src, .int .i64 dst, .slice uo bs.length uc] 30) = w1 at *
  clear hW1
  generalize hB : w.heap.size = b at HP ⊢
  clear hB
  have p0 := HP.out.cell 0 rfl
  have p1 := HP.out.cell 1 rfl
  have p2 := HP.out.cell 2 rfl
  have c0 : w1.cell? ⟨q, 0, none⟩ = some (.slice ao es.length cap) := HT.out.rb.cell 0 rfl
  refine (N1.out _).mono ?_
  rintro e w2 ⟨rfl, rfl⟩
  rw [h1]
  go_wp2_with fail
  refine (N2.out _).mono ?_
  rintro e w2 ⟨rfl, rfl⟩
  rw [h2]
  go_wp2_with fail
  have HC := hid (fun W (h : Fr (fun _ => False) w1 W) => (dcopy_any src dst _ bs W (HU.out.keep0 h) hl).mono (R' := fun e w' => ∃ u, e = .returned (.agg #[.int .i64 src, .int .i64 dst, u]) ∧ w'.ownsRow 0 5 1 u bs.length (bs.map (.int .u8)) ∧ Fr (fun _ => False) w1 w' ∧ Above w1.heap.size (footOf u)) fun e w' ⟨u, q1, q2, q3, q4⟩ => ⟨u, q1, q2, h.trans q3, fun k hk => Nat.le_trans h.size (q4 k hk)⟩)
  have HX := hid (fun W (h : Fr (fun _ => False) w1 W) => ((HT.out.keep h).rb.cell 0 rfl : W.cell? ⟨q, 0, none⟩ = some (.slice ao es.length cap)))
  have HY := hid (fun W W' (h : Fr (fun _ => False) w1 W) (h2 : Fr (· ∈ footOf (.slice ao es.length cap)) W W') => ((HT.out.rb.keep h (fun h => h)).keep h2 (fun hk => HT.out.qb (feet_v hk)) : Blk W' q (rcells (.slice ao es.length cap) sr) 53))
  have hacc := Fr.refl (fun _ => False) w1
  go_region_law (first
    | (refine step_append_row (by rfl) (.tmp 25) (.tmp 28) 45 (by rfl) 30 i0 (.agg #[.int .i64 0, .int .i64 0, .slice none 0 0]) 3 40 Try.underlying45 i1 i2 i3 i4 rfl (by decide) (.slice ao es.length cap) es.length (flat es) (by rfl) (row_keep HT.out.lb.bk.row (hacc.alloc (.cells #[.int .i64 src, .int .i64 dst, .slice ua bs.length ucc] 30)) (fun _ _ h => h)) ⟨w5.heap.size, 0, none⟩ 1 1 [.int .i64 src, .int .i64 dst, .slice ua bs.length ucc] (by rfl) rfl (new3' w5 _ _ _ _ _ rfl) (by intro x hx; simp at hx; rcases hx with rfl | rfl | rfl <;> rfl) (by simp only [maxLen]; omega) (by omega) ?_; intro v'' w4 hown hfr hgr _; obtain ⟨ao2, cap2, rfl⟩ := rowN_shape hown; have hB4 := HY.out _ _ (hacc.alloc _) hfr; have c4 := hB4.cell 0 rfl; have f4 := hB4.free 0)
    | (go_simp; go_at_call 12; with_reducible refine (HC.out _ ?hh).mono ?_; (case hh => (repeat' (first | with_reducible exact hacc | with_reducible refine Fr.drew ?_))); rintro e w5 ⟨u, rfl, hrow, hacc, hab⟩; obtain ⟨ua, ucc, rfl⟩ := rowN_shape hrow; have c0 := HX.out _ hacc; have c1 := HX.out _ (hacc.alloc (.cells #[.int .i64 src, .int .i64 dst, .slice ua bs.length ucc] 30))))
  all_goals
    have hfA : Fr (fun _ => False) w1 (w5.alloc (.cells #[.int .i64 src, .int .i64 dst, .slice ua bs.length ucc] 30)) := hacc.alloc _
    have hold := HT.out.lb.old
    have hLB : LB w0 w4 g side v ds (.slice ao2 (es.length + 1) cap2) (es ++ [⟨src, dst, .slice ua bs.length ucc, bs⟩]) := (HT.out.lb.keep hfA).book_more (d := ⟨src, dst, .slice ua bs.length ucc, bs⟩) ⟨row_keep hrow ((Fr.refl (fun _ => False) w5).alloc _) (fun _ _ h => h), HA.out, hl⟩ (fun k hk => by have := hab k hk; have := hold.2.2.2; omega) (fun hk => by have := hab g hk; have := hold.2.2.1; omega)
      (fun k hk hk' => by have := hab k hk'; have := hold.1 k hk; omega) (fun k hk hk' => by have := hab k hk'; have := hold.2.1 k hk; omega) hown hfr hgr
    have hlo := HT.out.lo
    have hfW : Fr (fun k => k = q ∨ k ∈ feet (.slice ao es.length cap) es) w w4 := ((HF1.out.trans hfA).mono (T := fun k => k = q ∨ k ∈ feet (.slice ao es.length cap) es) (fun _ _ h => h.elim)).step hfr (fun k _ h => .inr (feet_v h))
    have HL := hid (hLB.cellq hB4 hlo (.slice ao2 (es.length + 1) cap2))
    have HW := hid (hfW.step ((Fr.refl (· = q) w4).set1 0 (.slice ao2 (es.length + 1) cap2)) (fun k _ h => .inl h))
    have HG : Hid (∀ k, k ∈ feet (.slice ao2 (es.length + 1) cap2) (es ++ [⟨src, dst, .slice ua bs.length ucc, bs⟩]) → k ∈ feet (.slice ao es.length cap) es ∨ w.heap.size ≤ k) := hid (fun k hk => by
      have h1s := HF1.out.size
      rcases mem_feet.1 hk with h1 | ⟨x, hx, h1⟩
      · rcases hgr k h1 with h2 | h2
        · exact .inl (feet_v h2)
        · have := hfA.size; exact .inr (by omega)
      · rcases List.mem_append.1 hx with hx | hx
        · exact .inl (feet_d hx h1)
        · simp at hx; subst hx
          have := hab k h1; exact .inr (by omega))
    clear hfA hold hLB hlo hfW hown hfr hgr hrow hacc hab hB4 c4 f4
    go_wp2_with fail
    go_ret
    exact ⟨_, _, rfl, HL.out, HW.out, HG.out⟩

theorem rdouble_bad {w0 w : World} {g q : Nat} {side sr : Int} {v vb : Value} {ds es : List Dg} (i : Int) (h : TW w0 w g side v ds q sr vb es) (hi : ¬ (0 ≤ i ∧ i < (es.length : Int))) :
    Calls Try.prog 17 #[.pointer (some ⟨q, 0, none⟩), .int .i64 i] w fun e w' => e = .returned (.int .i64 9) ∧ w = w' := by
  have HH := hid (rhas_any i h)
  rw [show decide (0 ≤ i ∧ i < (es.length : Int)) = false from decide_eq_false hi] at HH
  clear h hi
  go_enter Try.func17, Try.ntmps17
  go_wp2_with fail
  refine HH.out.mono ?_
  rintro e w2 ⟨rfl, rfl⟩
  go_wp2_with fail
  go_ret
  exact ⟨rfl, rfl⟩
set_option maxHeartbeats 1000000 in
theorem rdouble_at {w0 w : World} {g q : Nat} {side sr : Int} {v vb : Value} {ds es : List Dg} {Q : Ending → World → Prop} (i : Nat) (d : Dg) (h : TW w0 w g side v ds q sr vb es) (hd : es[i]? = some d)
    (hp : Calls Try.prog 11 #[.pointer (some ⟨q, 0, none⟩), .agg #[.int .i64 d.src, .int .i64 d.dst, d.v]] w fun e w' => (∃ x, e = .returned (.int .i64 x)) ∧ Q e w') :
    Calls Try.prog 17 #[.pointer (some ⟨q, 0, none⟩), .int .i64 (i : Int)] w Q := by
  have hil : i < es.length := (List.getElem?_eq_some_iff.1 hd).1
  have HH := hid (rhas_any (i : Int) h)
  rw [show decide (0 ≤ (i : Int) ∧ (i : Int) < (es.length : Int)) = true from decide_eq_true (by omega)] at HH
  obtain ⟨gb, cap, rfl, _, hnc, hcm⟩ := rowN_some h.lb.bk.row (by omega)
  obtain ⟨hc0, hc1, hc2⟩ := h.lb.bk.at rfl hd
  obtain ⟨src, dst, u, bs⟩ := d
  obtain ⟨uo, uc, rfl⟩ : ∃ uo uc, u = .slice uo bs.length uc := rowN_shape (h.lb.bk.dg _ (List.mem_of_getElem? hd)).row
  simp only at hc0 hc1 hc2 hp
  have HP := hid hp
  have c2 : w.cell? ⟨q, 0, none⟩ = some (.slice (some ⟨gb, 0, none⟩) es.length cap) := h.rb.cell 0 rfl
  have i0 : (0 : Int) ≤ (i : Int) := by omega
  have i1 : (i : Int) < (es.length : Int) := by omega
  clear h hd hp hil
  go_enter Try.func17, Try.ntmps17
  go_wp2_with fail
  refine HH.out.mono ?_
  rintro e w2 ⟨rfl, rfl⟩
  go_wp2_with fail
  refine HP.out.mono ?_
  rintro e w2 ⟨⟨x, rfl⟩, hq⟩
  have HQ := hid hq
  clear hq
  go_wp2_with fail
  exact HQ.out
end Go.Proofs.Ytcmdjcpbidbkjaa
