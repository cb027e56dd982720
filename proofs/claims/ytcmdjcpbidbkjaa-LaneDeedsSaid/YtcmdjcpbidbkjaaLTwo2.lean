/-
  BOTH LANES, SIDE BY SIDE: Flip and Take. Conditions: none; no walk.
-/
import Derived.Test.YtcmdjcpbidbkjaaLTwo
namespace Go.Proofs.Ytcmdjcpbidbkjaa
open Go.RowKit

theorem feet_set {v : Value} {ds : List Dg} {i : Nat} {d : Dg} {bs' : List Int} (hd : ds[i]? = some d) {k : Nat} (hk : k ∈ feet v (ds.set i ⟨d.src, d.dst, d.v, bs'⟩)) : k ∈ feet v ds := by
  rcases mem_feet.1 hk with h1 | ⟨x, hx, h1⟩
  · exact feet_v h1
  · rcases List.mem_or_eq_of_mem_set hx with hx | hx
    · exact feet_d hx h1
    · subst hx; exact feet_d (List.mem_of_getElem? hd) h1
section
variable {X : Nat → Prop} {w0 w w' : World} {g q : Nat} {side sr : Int} {La Lb : List Pl}
theorem two_flip_a (i bit : Int) (h : TD X w0 w g q side sr La Lb) (hb : bit ≤ 9223372036854775807) : Calls Try.prog 18 #[.pointer (some ⟨g, 0, none⟩), .int .i64 i, .int .i64 bit] w fun e w' => e = .returned (.int .i64 (sFlip La i bit).1) ∧ TD X w0 w' g q side sr (sFlip La i bit).2 Lb ∧ Fr (fun k => ¬ X k) w w' := by
  have h0 := h
  obtain ⟨v, ds, vb, es, hT, h1, h2, h3, h4, hX⟩ := h
  have hlen : La.length = ds.length := by subst h1; simp
  by_cases hr : inR La i
  · have hr2 := hr
    obtain ⟨r0, r1⟩ := hr2
    obtain ⟨n, rfl⟩ := Int.eq_ofNat_of_zero_le r0
    obtain ⟨d, hd, hg⟩ := pl_get h1 (i := n) (by omega)
    by_cases hbb : bit < 0 ∨ (d.bs.length : Int) ≤ bit / 8
    · have es' : sFlip La (n : Int) bit = (9, La) := by unfold sFlip; rw [if_neg (fun hh => hh.2 (by rw [Int.toNat_natCast, hg]; exact hbb))]
      rw [es']
      refine (lflip_none n bit d w hT.lb.la.ls hd hbb).mono ?_
      rintro e w' ⟨rfl, rfl⟩
      exact ⟨rfl, h0, Fr.refl _ _⟩
    · obtain ⟨p, rfl⟩ := Int.eq_ofNat_of_zero_le (show 0 ≤ bit by omega)
      have es' : sFlip La (n : Int) (p : Int) = (0, La.set n (d.src, d.dst, d.bs.set (p / 8) (xbit (d.bs.getD (p / 8) 0) (p % 8)))) := by
        unfold sFlip; rw [if_pos ⟨hr, by rw [Int.toNat_natCast, hg]; exact hbb⟩, Int.toNat_natCast, Int.toNat_natCast, hg]
      rw [es']
      refine (lb_flip n p d hT.lb hd (by omega) (by omega)).mono ?_
      rintro e w' ⟨rfl, hB, f⟩
      refine ⟨rfl, ⟨v, _, vb, es, hT.lane hB f, by rw [← h1, List.map_set]; rfl, h2, by simpa using h3, h4, fun k hk => ?_⟩, f.mono (fun k _ hk hx => ?_)⟩
      · obtain ⟨a, b, c, d', e⟩ := hX k hk
        exact ⟨a, b, fun hm => c (feet_set hd hm), d', Nat.lt_of_lt_of_le e f.size⟩
      · obtain ⟨a, b, c, d', e⟩ := hX k hx
        exact hk.elim a c
  · have es' : sFlip La i bit = (9, La) := by unfold sFlip; rw [if_neg (fun hh => hr hh.1)]
    rw [es']
    refine (lflip_bad i bit w hT.lb.la.ls (by rw [← hlen]; exact hr)).mono ?_
    rintro e w' ⟨rfl, rfl⟩
    exact ⟨rfl, h0, Fr.refl _ _⟩
theorem two_flip_b (i bit : Int) (h : TD X w0 w g q side sr La Lb) (hb : bit ≤ 9223372036854775807) : Calls Try.prog 19 #[.pointer (some ⟨q, 0, none⟩), .int .i64 i, .int .i64 bit] w fun e w' => e = .returned (.int .i64 (sFlip Lb i bit).1) ∧ TD X w0 w' g q side sr La (sFlip Lb i bit).2 ∧ Fr (fun k => ¬ X k) w w' := by
  have h0 := h
  obtain ⟨v, ds, vb, es, hT, h1, h2, h3, h4, hX⟩ := h
  have hlen : Lb.length = es.length := by subst h2; simp
  by_cases hr : inR Lb i
  · have hr2 := hr
    obtain ⟨r0, r1⟩ := hr2
    obtain ⟨n, rfl⟩ := Int.eq_ofNat_of_zero_le r0
    obtain ⟨d, hd, hg⟩ := pl_get h2 (i := n) (by omega)
    by_cases hbb : bit < 0 ∨ (d.bs.length : Int) ≤ bit / 8
    · have es' : sFlip Lb (n : Int) bit = (9, Lb) := by unfold sFlip; rw [if_neg (fun hh => hh.2 (by rw [Int.toNat_natCast, hg]; exact hbb))]
      rw [es']
      refine (rflip_none n bit d hT hd hb hbb).mono ?_
      rintro e w' ⟨rfl, rfl⟩
      exact ⟨rfl, h0, Fr.refl _ _⟩
    · obtain ⟨p, rfl⟩ := Int.eq_ofNat_of_zero_le (show 0 ≤ bit by omega)
      have es' : sFlip Lb (n : Int) (p : Int) = (0, Lb.set n (d.src, d.dst, d.bs.set (p / 8) (xbit (d.bs.getD (p / 8) 0) (p % 8)))) := by
        unfold sFlip; rw [if_pos ⟨hr, by rw [Int.toNat_natCast, hg]; exact hbb⟩, Int.toNat_natCast, Int.toNat_natCast, hg]
      rw [es']
      refine (rflip_good n p d hT hd (by omega) (by omega)).mono ?_
      rintro e w' ⟨rfl, hT', f⟩
      refine ⟨rfl, ⟨v, ds, vb, _, hT', h1, by rw [← h2, List.map_set]; rfl, h3, by simpa using h4, fun k hk => ?_⟩, f.mono (fun k _ hk hx => ?_)⟩
      · obtain ⟨a, b, c, d', e⟩ := hX k hk
        exact ⟨a, b, c, fun hm => d' (feet_set hd hm), Nat.lt_of_lt_of_le e f.size⟩
      · obtain ⟨a, b, c, d', e⟩ := hX k hx
        exact d' (feet_d (List.mem_of_getElem? hd) hk)
  · have es' : sFlip Lb i bit = (9, Lb) := by unfold sFlip; rw [if_neg (fun hh => hr hh.1)]
    rw [es']
    refine (rflip_bad i bit hT (by rw [← hlen]; exact hr)).mono ?_
    rintro e w' ⟨rfl, rfl⟩
    exact ⟨rfl, h0, Fr.refl _ _⟩

/-- What is taken: its bytes are nobody's any more. -/
structure Tk (X : Nat → Prop) (w0 w w' : World) (g q : Nat) (side sr : Int) (La Lb : List Pl) (u : Value) (bs : List Int) : Prop where
  td : TD (fun k => X k ∨ k ∈ footOf u) w0 w' g q side sr La Lb
  row : w'.ownsRow 0 5 1 u bs.length (bs.map (.int .u8))
  ab : AllB bs
  lo : Above w0.heap.size (footOf u)
  dis : ∀ k, X k → k ∉ footOf u
  fr : Fr (fun k => ¬ X k) w w'
theorem tk_nil (h : TD X w0 w g q side sr La Lb) (f : Fr (fun _ => False) w w') : Tk X w0 w w' g q side sr La Lb (.slice none 0 0) [] :=
  ⟨(h.keep0 f).less (fun k hk => hk.elim id (fun hm => by simp [footOf, Value.ownBlock] at hm)), World.ownsRow_nil _ _ _ _, AllB.nil, fun k hk => by simp [footOf, Value.ownBlock] at hk, fun k _ hk => by simp [footOf, Value.ownBlock] at hk, f.mono (fun _ _ h => h.elim)⟩
theorem two_take_a (i : Int) (h : TD X w0 w g q side sr La Lb) : Calls Try.prog 13 #[.pointer (some ⟨g, 0, none⟩), .int .i64 i] w fun e w' => ∃ u, e = .returned (.tuple #[.agg #[.int .i64 (sTake La i).1.1.1, .int .i64 (sTake La i).1.1.2.1, u], .int .i64 (sTake La i).1.2]) ∧ Tk X w0 w w' g q side sr (sTake La i).2 Lb u (sTake La i).1.1.2.2 := by
  have h0 := h
  obtain ⟨v, ds, vb, es, hT, h1, h2, h3, h4, hX⟩ := h
  have hlen : La.length = ds.length := by subst h1; simp
  by_cases hr : inR La i
  · have es' : sTake La i = ((La.getD i.toNat pl0, 0), La.eraseIdx i.toNat) := by unfold sTake; rw [if_pos hr]
    rw [es']
    obtain ⟨r0, r1⟩ := hr
    obtain ⟨n, rfl⟩ := Int.eq_ofNat_of_zero_le r0
    obtain ⟨d, hd, hg⟩ := pl_get h1 (i := n) (by omega)
    rw [Int.toNat_natCast, hg]
    have hdm : d ∈ ds := List.mem_of_getElem? hd
    refine (ltake_c n d w hT.lb.la hd).mono ?_
    rintro e w' ⟨v', rfl, hA, hdg, c1, c2, c3, c4, f, c5⟩
    have hB := hT.lb.lane_take hA f c5
    have f' : Fr (fun k => k = g ∨ k ∈ feet v ds) w w' := f.mono (fun k _ hk => hk.imp id feet_v)
    refine ⟨d.v, rfl, ⟨v', _, vb, es, hT.lane hB f', by rw [← h1]; simp [List.eraseIdx_eq_take_drop_succ, List.map_take, List.map_drop], h2, by rw [List.length_eraseIdx]; split <;> omega, h4, fun k hk => ?_⟩, hdg.row, hdg.ab, c4, fun k hk hm => (hX k hk).2.2.1 (feet_d hdm hm), f'.mono (fun k _ hk hx => ?_)⟩
    · rcases hk with hk | hk
      · obtain ⟨a, b, c, d', e⟩ := hX k hk
        refine ⟨a, b, fun hm => ?_, d', Nat.lt_of_lt_of_le e f.size⟩
        rcases mem_feet.1 hm with h | ⟨x, hx, h⟩
        · rw [c5] at h; exact c (feet_v h)
        · exact c (feet_d (List.mem_of_mem_eraseIdx hx) h)
      · have hkf := feet_d (v := v) hdm hk
        have hkl := hT.lb.old.1 k hkf
        refine ⟨fun e => c1 (by rw [← e]; exact hk), fun e => hT.qv (by rw [← e]; exact hkf), fun hm => ?_, fun hm => hT.lb.sep k hkf hm, Nat.lt_of_lt_of_le hkl f.size⟩
        rcases mem_feet.1 hm with h | ⟨x, hx, h⟩
        · exact c2 k h hk
        · exact c3 x hx k h hk
    · obtain ⟨a, b, c, d', e⟩ := hX k hx
      exact hk.elim a c
  · have es' : sTake La i = ((pl0, 9), La) := by unfold sTake; rw [if_neg hr]
    rw [es']
    refine (ltake_bad i w hT.lb.la.ls (by rw [← hlen]; exact hr)).mono ?_
    rintro e w' ⟨rfl, f⟩
    exact ⟨_, rfl, tk_nil h0 f⟩
theorem two_take_b (i : Int) (h : TD X w0 w g q side sr La Lb) : Calls Try.prog 14 #[.pointer (some ⟨q, 0, none⟩), .int .i64 i] w fun e w' => ∃ u, e = .returned (.tuple #[.agg #[.int .i64 (sTake Lb i).1.1.1, .int .i64 (sTake Lb i).1.1.2.1, u], .int .i64 (sTake Lb i).1.2]) ∧ Tk X w0 w w' g q side sr La (sTake Lb i).2 u (sTake Lb i).1.1.2.2 := by
  have h0 := h
  obtain ⟨v, ds, vb, es, hT, h1, h2, h3, h4, hX⟩ := h
  have hlen : Lb.length = es.length := by subst h2; simp
  by_cases hr : inR Lb i
  · have es' : sTake Lb i = ((Lb.getD i.toNat pl0, 0), Lb.eraseIdx i.toNat) := by unfold sTake; rw [if_pos hr]
    rw [es']
    obtain ⟨r0, r1⟩ := hr
    obtain ⟨n, rfl⟩ := Int.eq_ofNat_of_zero_le r0
    obtain ⟨d, hd, hg⟩ := pl_get h2 (i := n) (by omega)
    rw [Int.toNat_natCast, hg]
    have hdm : d ∈ es := List.mem_of_getElem? hd
    refine (rtake_good n d hT hd h4).mono ?_
    rintro e w' ⟨vb', rfl, hT', hdg, f, c1, c2⟩
    refine ⟨d.v, rfl, ⟨v, ds, vb', _, hT', h1, by rw [← h2]; simp [List.eraseIdx_eq_take_drop_succ, List.map_take, List.map_drop], h3, by rw [List.length_eraseIdx]; split <;> omega, fun k hk => ?_⟩, hdg.row, hdg.ab, fun k hk => hT.lb.ab k (feet_d hdm hk), fun k hk hm => (hX k hk).2.2.2.1 (feet_d hdm hm), f.mono (fun k _ hk hx => (hX k hx).2.1 hk)⟩
    rcases hk with hk | hk
    · obtain ⟨a, b, c, d', e⟩ := hX k hk
      exact ⟨a, b, c, fun hm => by rcases c1 k hm with h | h; exact d' h; omega, Nat.lt_of_lt_of_le e f.size⟩
    · have hkf := feet_d (v := vb) hdm hk
      have hkl := hT.lb.old.2.1 k hkf
      exact ⟨fun e => hT.lb.gs (by rw [← e]; exact hkf), fun e => hT.qb (by rw [← e]; exact hkf), fun hm => hT.lb.sep k hm hkf, c2 k hk, Nat.lt_of_lt_of_le hkl f.size⟩
  · have es' : sTake Lb i = ((pl0, 9), Lb) := by unfold sTake; rw [if_neg hr]
    rw [es']
    refine (rtake_bad i hT (by rw [← hlen]; exact hr)).mono ?_
    rintro e w' ⟨rfl, f⟩
    exact ⟨_, rfl, tk_nil h0 f⟩
end
end Go.Proofs.Ytcmdjcpbidbkjaa
