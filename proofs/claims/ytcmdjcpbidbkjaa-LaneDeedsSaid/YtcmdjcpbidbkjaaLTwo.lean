/-
  BOTH LANES, SIDE BY SIDE: each call's answer by the list of what is on its way. X: blocks that are none of theirs. Conditions: none; no walk.
-/
import Derived.Test.YtcmdjcpbidbkjaaLRef6
import Derived.Test.YtcmdjcpbidbkjaaLaneMore
namespace Go.Proofs.Ytcmdjcpbidbkjaa
open Go.RowKit

abbrev Pl := Int × Int × List Int
def pl0 : Pl := (0, 0, [])
def inR (L : List Pl) (i : Int) : Prop := 0 ≤ i ∧ i < (L.length : Int)
instance (L : List Pl) (i : Int) : Decidable (inR L i) := inferInstanceAs (Decidable (_ ∧ _))
def sPut (L : List Pl) (p : Pl) : Int × List Pl := if (nodeB p.1 && nodeB p.2.1) = false then (2, L) else if 4096 ≤ L.length then (7, L) else (0, L ++ [p])
def sTake (L : List Pl) (i : Int) : (Pl × Int) × List Pl := if inR L i then ((L.getD i.toNat pl0, 0), L.eraseIdx i.toNat) else ((pl0, 9), L)
def sDouble (L : List Pl) (i : Int) : Int × List Pl := if inR L i then sPut L (L.getD i.toNat pl0) else (9, L)
def sFlip (L : List Pl) (i bit : Int) : Int × List Pl :=
  if inR L i ∧ ¬ (bit < 0 ∨ ((L.getD i.toNat pl0).2.2.length : Int) ≤ bit / 8) then
    (0, L.set i.toNat ((L.getD i.toNat pl0).1, (L.getD i.toNat pl0).2.1, (L.getD i.toNat pl0).2.2.set (bit.toNat / 8) (xbit ((L.getD i.toNat pl0).2.2.getD (bit.toNat / 8) 0) (bit.toNat % 8)))) else (9, L)

def TD (X : Nat → Prop) (w0 w : World) (g q : Nat) (side sr : Int) (La Lb : List Pl) : Prop :=
  ∃ v ds vb es, TW w0 w g side v ds q sr vb es ∧ ds.map Dg.pl = La ∧ es.map Dg.pl = Lb ∧ ds.length ≤ 4096 ∧ es.length ≤ 4096 ∧ ∀ k, X k → k ≠ g ∧ k ≠ q ∧ k ∉ feet v ds ∧ k ∉ feet vb es ∧ k < w.heap.size
theorem pl_get {ds : List Dg} {L : List Pl} (h : ds.map Dg.pl = L) {i : Nat} (hi : i < ds.length) : ∃ d, ds[i]? = some d ∧ L.getD i pl0 = (d.src, d.dst, d.bs) := by
  subst h
  refine ⟨ds[i], List.getElem?_eq_getElem hi, ?_⟩
  simp [List.getD, hi, Dg.pl]
section
variable {X : Nat → Prop} {w0 w w' : World} {g q : Nat} {side sr : Int} {La Lb : List Pl}
theorem TD.lenA (h : TD X w0 w g q side sr La Lb) : La.length ≤ 4096 := by
  obtain ⟨v, ds, vb, es, _, h1, _, h2, _⟩ := h; subst h1; simpa using h2
theorem TD.fr (h : TD X w0 w g q side sr La Lb) : Fr (fun _ => False) w0 w := by
  obtain ⟨v, ds, vb, es, hT, _⟩ := h; exact hT.lb.la.fr
theorem TD.lt (h : TD X w0 w g q side sr La Lb) {k : Nat} (hk : X k) : k < w.heap.size := by
  obtain ⟨v, ds, vb, es, _, _, _, _, _, hX⟩ := h; exact (hX k hk).2.2.2.2
/-- What is none of theirs was turned. -/
theorem TD.keep {S : Nat → Prop} (h : TD X w0 w g q side sr La Lb) (f : Fr S w w') (hS : ∀ k, k < w.heap.size → S k → X k ∧ w0.heap.size ≤ k) : TD X w0 w' g q side sr La Lb := by
  obtain ⟨v, ds, vb, es, hT, h1, h2, h3, h4, hX⟩ := h
  have f' : Fr (fun k => X k ∧ w0.heap.size ≤ k) w w' := f.mono hS
  refine ⟨v, ds, vb, es, hT.keepS f' (fun e => (hX _ e.1).1 rfl) (fun k hk e => (hX _ e.1).2.2.1 hk) (fun k hk e => (hX _ e.1).2.2.2.1 hk) (fun e => (hX _ e.1).2.1 rfl) (fun k e => e.2), h1, h2, h3, h4, fun k hk => ?_⟩
  obtain ⟨a, b, c, d, e⟩ := hX k hk
  exact ⟨a, b, c, d, Nat.lt_of_lt_of_le e f.size⟩
theorem TD.keep0 (h : TD X w0 w g q side sr La Lb) (f : Fr (fun _ => False) w w') : TD X w0 w' g q side sr La Lb := h.keep f (fun _ _ h => h.elim)
theorem TD.less {Y : Nat → Prop} (h : TD X w0 w g q side sr La Lb) (hy : ∀ k, Y k → X k) : TD Y w0 w g q side sr La Lb := by
  obtain ⟨v, ds, vb, es, hT, h1, h2, h3, h4, hX⟩ := h
  exact ⟨v, ds, vb, es, hT, h1, h2, h3, h4, fun k hk => hX k (hy k hk)⟩
/-- New blocks are none of theirs. -/
theorem TD.more {Y : Nat → Prop} (h : TD X w0 w g q side sr La Lb) (f : Fr (fun _ => False) w w') (hy : ∀ k, Y k → X k ∨ (w.heap.size ≤ k ∧ k < w'.heap.size)) : TD Y w0 w' g q side sr La Lb := by
  obtain ⟨v, ds, vb, es, hT, h1, h2, h3, h4, hX⟩ := h
  have hold := hT.lb.old
  have hq := hT.rb.lt
  refine ⟨v, ds, vb, es, hT.keep f, h1, h2, h3, h4, fun k hk => ?_⟩
  rcases hy k hk with hx | ⟨l1, l2⟩
  · obtain ⟨a, b, c, d, e⟩ := hX k hx
    exact ⟨a, b, c, d, Nat.lt_of_lt_of_le e f.size⟩
  · exact ⟨by omega, by omega, fun hm => by have := hold.1 k hm; omega, fun hm => by have := hold.2.1 k hm; omega, l2⟩

theorem two_put_a (src dst : Int) (u : Value) (bs : List Int) (h : TD X w0 w g q side sr La Lb) (hu : Vw .u8 w u bs) (ha : AllB bs) (hl : bs.length ≤ 140737488355328) :
    Calls Try.prog 10 #[.pointer (some ⟨g, 0, none⟩), .agg #[.int .i64 src, .int .i64 dst, u]] w fun e w' => e = .returned (.int .i64 (sPut La (src, dst, bs)).1) ∧ TD X w0 w' g q side sr (sPut La (src, dst, bs)).2 Lb ∧ Fr (fun k => ¬ X k) w w' := by
  have h0 := h
  obtain ⟨v, ds, vb, es, hT, h1, h2, h3, h4, hX⟩ := h
  obtain ⟨uo, uc, rfl, _⟩ := id hu
  have hlen : La.length = ds.length := by subst h1; simp
  cases hn : (nodeB src && nodeB dst) with
  | false =>
    refine (lput_arg src dst uo bs.length uc w hT.lb.la.ls hn).mono ?_
    rintro e w' ⟨rfl, f⟩
    have es : sPut La (src, dst, bs) = (2, La) := by unfold sPut; rw [if_pos hn]
    rw [es]
    exact ⟨rfl, h0.keep0 f, f.mono (fun _ _ h => h.elim)⟩
  | true =>
    have hn2 : ¬ (nodeB src && nodeB dst) = false := by rw [hn]; decide
    simp only [Bool.and_eq_true] at hn
    by_cases hf : 4096 ≤ ds.length
    · refine (lput_full src dst uo bs.length uc w hT.lb.la.ls hn.1 hn.2 hf).mono ?_
      rintro e w' ⟨rfl, f⟩
      have es : sPut La (src, dst, bs) = (7, La) := by unfold sPut; rw [if_neg hn2, if_pos (by rw [hlen]; exact hf)]
      rw [es]
      exact ⟨rfl, h0.keep0 f, f.mono (fun _ _ h => h.elim)⟩
    · refine (lb_put src dst _ bs hT.lb hu ha hl hn.1 hn.2 (by omega)).mono ?_
      rintro e w' ⟨v', u', rfl, hB, f, hg⟩
      have es' : sPut La (src, dst, bs) = (0, La ++ [(src, dst, bs)]) := by unfold sPut; rw [if_neg hn2, if_neg (by rw [hlen]; exact hf)]
      rw [es']
      refine ⟨rfl, ⟨v', _, vb, es, hT.lane hB f, by rw [← h1]; simp [Dg.pl], h2, by simp; omega, h4, fun k hk => ?_⟩, f.mono (fun k _ hk hx => ?_)⟩
      · obtain ⟨a, b, c, d, e⟩ := hX k hk
        exact ⟨a, b, fun hm => by rcases hg k hm with h | h; exact c h; omega, d, Nat.lt_of_lt_of_le e f.size⟩
      · obtain ⟨a, b, c, d, e⟩ := hX k hx
        exact hk.elim a c
theorem two_put_b (src dst : Int) (u : Value) (bs : List Int) (h : TD X w0 w g q side sr La Lb) (hu : Vw .u8 w u bs) (ha : AllB bs) (hl : bs.length ≤ 140737488355328) :
    Calls Try.prog 11 #[.pointer (some ⟨q, 0, none⟩), .agg #[.int .i64 src, .int .i64 dst, u]] w fun e w' => e = .returned (.int .i64 (sPut Lb (src, dst, bs)).1) ∧ TD X w0 w' g q side sr La (sPut Lb (src, dst, bs)).2 ∧ Fr (fun k => ¬ X k) w w' := by
  have h0 := h
  obtain ⟨v, ds, vb, es, hT, h1, h2, h3, h4, hX⟩ := h
  obtain ⟨uo, uc, rfl, _⟩ := id hu
  have hlen : Lb.length = es.length := by subst h2; simp
  cases hn : (nodeB src && nodeB dst) with
  | false =>
    refine (rput_arg src dst uo bs.length uc hT hn).mono ?_
    rintro e w' ⟨rfl, _, f⟩
    have es : sPut Lb (src, dst, bs) = (2, Lb) := by unfold sPut; rw [if_pos hn]
    rw [es]
    exact ⟨rfl, h0.keep0 f, f.mono (fun _ _ h => h.elim)⟩
  | true =>
    have hn2 : ¬ (nodeB src && nodeB dst) = false := by rw [hn]; decide
    simp only [Bool.and_eq_true] at hn
    by_cases hf : 4096 ≤ es.length
    · refine (rput_full src dst uo bs.length uc hT hn.1 hn.2 hf).mono ?_
      rintro e w' ⟨rfl, _, f⟩
      have es : sPut Lb (src, dst, bs) = (7, Lb) := by unfold sPut; rw [if_neg hn2, if_pos (by rw [hlen]; exact hf)]
      rw [es]
      exact ⟨rfl, h0.keep0 f, f.mono (fun _ _ h => h.elim)⟩
    · refine (rput_good src dst _ bs hT hu ha hl hn.1 hn.2 (by omega)).mono ?_
      rintro e w' ⟨vb', u', rfl, hT', f, hg⟩
      have es' : sPut Lb (src, dst, bs) = (0, Lb ++ [(src, dst, bs)]) := by unfold sPut; rw [if_neg hn2, if_neg (by rw [hlen]; exact hf)]
      rw [es']
      refine ⟨rfl, ⟨v, ds, vb', _, hT', h1, by rw [← h2]; simp [Dg.pl], h3, by simp; omega, fun k hk => ?_⟩, f.mono (fun k _ hk hx => ?_)⟩
      · obtain ⟨a, b, c, d, e⟩ := hX k hk
        exact ⟨a, b, c, fun hm => by rcases hg k hm with h | h; exact d h; omega, Nat.lt_of_lt_of_le e f.size⟩
      · obtain ⟨a, b, c, d, e⟩ := hX k hx
        exact hk.elim b d
theorem two_len_a (h : TD X w0 w g q side sr La Lb) : Calls Try.prog 22 #[.pointer (some ⟨g, 0, none⟩)] w fun e w' => e = .returned (.int .i64 (La.length : Int)) ∧ w = w' := by
  obtain ⟨v, ds, vb, es, hT, h1, _⟩ := h
  have : La.length = ds.length := by subst h1; simp
  rw [this]
  exact llen_any w hT.lb.la.ls
theorem two_len_b (h : TD X w0 w g q side sr La Lb) : Calls Try.prog 23 #[.pointer (some ⟨q, 0, none⟩)] w fun e w' => e = .returned (.int .i64 (Lb.length : Int)) ∧ w = w' := by
  obtain ⟨v, ds, vb, es, hT, _, h1, _⟩ := h
  have : Lb.length = es.length := by subst h1; simp
  rw [this]
  exact rlen_any hT
theorem two_reach_a (a b : Int) (h : TD X w0 w g q side sr La Lb) : Calls Try.prog 24 #[.pointer (some ⟨g, 0, none⟩), .int .i64 a, .int .i64 b] w fun e w' => e = .returned (.bool (reachB side a b)) ∧ ∃ m, w' = w.drewN m := by
  obtain ⟨v, ds, vb, es, hT, _⟩ := h
  exact lreach_any a b w hT.lb.la.ls
theorem two_reach_b (a b : Int) (h : TD X w0 w g q side sr La Lb) : Calls Try.prog 25 #[.pointer (some ⟨q, 0, none⟩), .int .i64 a, .int .i64 b] w fun e w' => e = .returned (.bool (reachB sr a b)) ∧ ∃ m, w' = w.drewN m := by
  obtain ⟨v, ds, vb, es, hT, _⟩ := h
  exact rreach_any a b hT
theorem two_cut_a (s : Int) (h : TD X w0 w g q side sr La Lb) : Calls Try.prog 20 #[.pointer (some ⟨g, 0, none⟩), .int .i64 s] w fun e w' => e = .returned (.int .i64 0) ∧ TD X w0 w' g q s sr La Lb ∧ Fr (fun k => ¬ X k) w w' := by
  obtain ⟨v, ds, vb, es, hT, h1, h2, h3, h4, hX⟩ := h
  refine (lb_cut s hT.lb).mono ?_
  rintro e w' ⟨rfl, hB, f⟩
  refine ⟨rfl, ⟨v, ds, vb, es, hT.lane hB f, h1, h2, h3, h4, fun k hk => ?_⟩, f.mono (fun k _ hk hx => ?_)⟩
  · obtain ⟨a, b, c, d, e⟩ := hX k hk
    exact ⟨a, b, c, d, Nat.lt_of_lt_of_le e f.size⟩
  · obtain ⟨a, b, c, d, e⟩ := hX k hx
    exact hk.elim a c
theorem two_cut_b (s : Int) (h : TD X w0 w g q side sr La Lb) : Calls Try.prog 21 #[.pointer (some ⟨q, 0, none⟩), .int .i64 s] w fun e w' => e = .returned (.int .i64 0) ∧ TD X w0 w' g q side s La Lb ∧ Fr (fun k => ¬ X k) w w' := by
  obtain ⟨v, ds, vb, es, hT, h1, h2, h3, h4, hX⟩ := h
  refine (rcut_any s hT).mono ?_
  rintro e w' ⟨rfl, hB, f⟩
  refine ⟨rfl, ⟨v, ds, vb, es, hB, h1, h2, h3, h4, fun k hk => ?_⟩, f.mono (fun k _ hk hx => ?_)⟩
  · obtain ⟨a, b, c, d, e⟩ := hX k hk
    exact ⟨a, b, c, d, Nat.lt_of_lt_of_le e f.size⟩
  · obtain ⟨a, b, c, d, e⟩ := hX k hx
    exact b hk
theorem two_double_a (i : Int) (h : TD X w0 w g q side sr La Lb) : Calls Try.prog 16 #[.pointer (some ⟨g, 0, none⟩), .int .i64 i] w fun e w' => e = .returned (.int .i64 (sDouble La i).1) ∧ TD X w0 w' g q side sr (sDouble La i).2 Lb ∧ Fr (fun k => ¬ X k) w w' := by
  have h0 := h
  obtain ⟨v, ds, vb, es, hT, h1, h2, h3, h4, hX⟩ := h
  have hlen : La.length = ds.length := by subst h1; simp
  by_cases hr : inR La i
  · have es' : sDouble La i = sPut La (La.getD i.toNat pl0) := by unfold sDouble; rw [if_pos hr]
    rw [es']
    obtain ⟨r0, r1⟩ := hr
    obtain ⟨n, rfl⟩ := Int.eq_ofNat_of_zero_le r0
    obtain ⟨d, hd, hg⟩ := pl_get h1 (i := n) (by omega)
    rw [Int.toNat_natCast, hg]
    have hdg := hT.lb.la.ls.dr.dg d (List.mem_of_getElem? hd)
    exact ldouble_at n d w hT.lb.la.ls hd ((two_put_a d.src d.dst d.v d.bs h0 (Vw.of_row hdg.row) hdg.ab hdg.len).mono fun e w' q => ⟨⟨_, q.1⟩, q⟩)
  · have es' : sDouble La i = (9, La) := by unfold sDouble; rw [if_neg hr]
    rw [es']
    refine (ldouble_bad i w hT.lb.la.ls (by rw [← hlen]; exact hr)).mono ?_
    rintro e w' ⟨rfl, rfl⟩
    exact ⟨rfl, h0, Fr.refl _ _⟩
theorem two_double_b (i : Int) (h : TD X w0 w g q side sr La Lb) : Calls Try.prog 17 #[.pointer (some ⟨q, 0, none⟩), .int .i64 i] w fun e w' => e = .returned (.int .i64 (sDouble Lb i).1) ∧ TD X w0 w' g q side sr La (sDouble Lb i).2 ∧ Fr (fun k => ¬ X k) w w' := by
  have h0 := h
  obtain ⟨v, ds, vb, es, hT, h1, h2, h3, h4, hX⟩ := h
  have hlen : Lb.length = es.length := by subst h2; simp
  by_cases hr : inR Lb i
  · have es' : sDouble Lb i = sPut Lb (Lb.getD i.toNat pl0) := by unfold sDouble; rw [if_pos hr]
    rw [es']
    obtain ⟨r0, r1⟩ := hr
    obtain ⟨n, rfl⟩ := Int.eq_ofNat_of_zero_le r0
    obtain ⟨d, hd, hg⟩ := pl_get h2 (i := n) (by omega)
    rw [Int.toNat_natCast, hg]
    have hdg := hT.lb.bk.dg d (List.mem_of_getElem? hd)
    exact rdouble_at n d hT hd ((two_put_b d.src d.dst d.v d.bs h0 (Vw.of_row hdg.row) hdg.ab hdg.len).mono fun e w' q => ⟨⟨_, q.1⟩, q⟩)
  · have es' : sDouble Lb i = (9, Lb) := by unfold sDouble; rw [if_neg hr]
    rw [es']
    refine (rdouble_bad i hT (by rw [← hlen]; exact hr)).mono ?_
    rintro e w' ⟨rfl, rfl⟩
    exact ⟨rfl, h0, Fr.refl _ _⟩
end
end Go.Proofs.Ytcmdjcpbidbkjaa
