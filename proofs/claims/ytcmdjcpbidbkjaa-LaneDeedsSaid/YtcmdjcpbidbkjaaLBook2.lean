/-
  A LANE AND A BOOK: the calls. Conditions: none.
-/
import Derived.Test.YtcmdjcpbidbkjaaLBook
import Derived.Test.YtcmdjcpbidbkjaaBring
namespace Go.Proofs.Ytcmdjcpbidbkjaa
open Go.RowKit

/-- One datagram's bytes are others, in their own row. -/
theorem DR.flip {w w' : World} {v : Value} {ds : List Dg} (h : DR w v ds) (i : Nat) (d : Dg) (hd : ds[i]? = some d) (bs' : List Int) (f : Fr (· ∈ footOf d.v) w w')
    (hr : w'.ownsRow 0 5 1 d.v bs'.length (bs'.map (.int .u8))) (ha : AllB bs') (hl : bs'.length ≤ 140737488355328) : DR w' v (ds.set i ⟨d.src, d.dst, d.v, bs'⟩) := by
  have hil : i < ds.length := (List.getElem?_eq_some_iff.1 hd).1
  have hdi : ds[i] = d := (List.getElem?_eq_some_iff.1 hd).2
  have hdm : d ∈ ds := List.mem_of_getElem? hd
  have hflat : flat (ds.set i ⟨d.src, d.dst, d.v, bs'⟩) = flat ds := by
    clear hr ha hl f h hdm
    induction ds generalizing i with
    | nil => rfl
    | cons x r ih =>
      cases i with
      | zero => simp at hd; subst hd; simp [flat, Dg.cells]
      | succ i =>
        simp only [List.set_cons_succ, flat, List.flatMap_cons] at ih ⊢
        rw [ih i (by simpa using hd) (by simpa using hil) (by simpa using hdi)]
  refine ⟨?_, ?_, ?_⟩
  · rw [hflat, List.length_set]
    exact row_keep h.row f (fun k hk hk' => h.apart hdm k hk hk')
  · intro x hx
    obtain ⟨j, hj, hxj⟩ := List.mem_iff_getElem.1 hx
    rw [List.length_set] at hj
    by_cases hij : i = j
    · subst hij
      rw [List.getElem_set_self] at hxj
      subst hxj
      exact ⟨hr, ha, hl⟩
    · rw [List.getElem_set_ne hij] at hxj
      subst hxj
      have hsep := List.pairwise_iff_getElem.1 h.sep
      refine (h.dg _ (List.getElem_mem hj)).keep f (fun k hk hk' => ?_)
      rcases Nat.lt_or_gt_of_ne hij with hlt | hlt
      · exact hsep i j hil hj hlt k (by rw [hdi]; exact hk') hk
      · exact hsep j i hj hil hlt k hk (by rw [hdi]; exact hk')
  · rw [List.pairwise_iff_getElem]
    intro a b ha' hb' hab
    rw [List.length_set] at ha' hb'
    have hsep := List.pairwise_iff_getElem.1 h.sep a b ha' hb' hab
    have e : ∀ j (hj : j < (ds.set i ⟨d.src, d.dst, d.v, bs'⟩).length) (hj' : j < ds.length), ((ds.set i ⟨d.src, d.dst, d.v, bs'⟩)[j]).v = (ds[j]).v := by
      intro j hj hj'
      by_cases hij : i = j
      · subst hij; rw [List.getElem_set_self, hdi]
      · rw [List.getElem_set_ne hij]
    rw [e a _ ha', e b _ hb']
    exact hsep
section
variable {w0 w w' : World} {g : Nat} {side : Int} {v vb : Value} {ds es : List Dg}
theorem LB.book_flip {i : Nat} {d : Dg} {bs' : List Int} (h : LB w0 w g side v ds vb es) (hd : es[i]? = some d) (f : Fr (· ∈ footOf d.v) w w')
    (hr : w'.ownsRow 0 5 1 d.v bs'.length (bs'.map (.int .u8))) (ha : AllB bs') (hl : bs'.length ≤ 140737488355328) : LB w0 w' g side v ds vb (es.set i ⟨d.src, d.dst, d.v, bs'⟩) := by
  have hdm : d ∈ es := List.mem_of_getElem? hd
  refine h.book (h.bk.flip i d hd bs' f hr ha hl) (f.mono (fun k _ hk => feet_d hdm hk)) (fun k hk => .inl ?_)
  rcases mem_feet.1 hk with h1 | ⟨x, hx, h1⟩
  · exact feet_v h1
  · rcases List.mem_or_eq_of_mem_set hx with hx | hx
    · exact feet_d hx h1
    · subst hx; exact feet_d hdm h1
/-- One more in the book. -/
theorem LB.book_more {vb' : Value} {d : Dg} (h : LB w0 w g side v ds vb es) (hd : DgIs w d) (h0 : Above w0.heap.size (footOf d.v)) (hdg : g ∉ footOf d.v) (hdl : Disj (feet v ds) (footOf d.v)) (hdb : Disj (feet vb es) (footOf d.v))
    (hr : w'.ownsRow 0 30 3 vb' (es.length + 1) (flat es ++ d.cells)) (f : Fr (· ∈ footOf vb) w w') (gr : Grows w (footOf vb) (footOf vb')) : LB w0 w' g side v ds vb' (es ++ [d]) := by
  have hz := h.la.fr.size
  have hg : g < w.heap.size := h.la.ls.blk.lt
  have hq : DR w' vb' (es ++ [d]) := h.bk.push hd (fun a ha k h1 h2 => hdb k (feet_d ha h1) h2) hr f
  refine ⟨⟨h.la.ls.keep f (fun hk => h.gs (feet_v hk)) (fun k hk hm => h.sep k hk (feet_v hm)), h.la.fr.step f (fun k hk hm => by have := h.ab k (feet_v hm); omega), h.la.lo, h.la.ab⟩, hq, fun k hk => ?_, fun hk => ?_, fun k hk hk' => ?_⟩
  · rcases mem_feet.1 hk with h1 | ⟨x, hx, h1⟩
    · rcases gr k h1 with h2 | h2
      · exact h.ab k (feet_v h2)
      · omega
    · rcases List.mem_append.1 hx with hx | hx
      · exact h.ab k (feet_d hx h1)
      · simp at hx; subst hx; exact h0 k h1
  · rcases mem_feet.1 hk with h1 | ⟨x, hx, h1⟩
    · rcases gr g h1 with h2 | h2
      · exact h.gs (feet_v h2)
      · omega
    · rcases List.mem_append.1 hx with hx | hx
      · exact h.gs (feet_d hx h1)
      · simp at hx; subst hx; exact hdg h1
  · have hkl := h.la.ls.dr.live k hk
    rcases mem_feet.1 hk' with h1 | ⟨x, hx, h1⟩
    · rcases gr k h1 with h2 | h2
      · exact h.sep k hk (feet_v h2)
      · omega
    · rcases List.mem_append.1 hx with hx | hx
      · exact h.sep k hk (feet_d hx h1)
      · simp at hx; subst hx; exact hdl k hk h1
end
section
variable {w0 w : World} {g : Nat} {side : Int} {v vb : Value} {ds es : List Dg}
theorem put_feet {src dst : Int} {bs : List Int} {u' v' : Value} (q4 : Grows w (footOf v) (footOf v')) (q5 : Above w.heap.size (footOf u')) : ∀ k, k ∈ feet v' (ds ++ [⟨src, dst, u', bs⟩]) → k ∈ feet v ds ∨ w.heap.size ≤ k := fun k hk => by
  rcases mem_feet.1 hk with h1 | ⟨d, hd, h1⟩
  · exact (q4 k h1).imp feet_v id
  · rcases List.mem_append.1 hd with hd | hd
    · exact .inl (feet_d hd h1)
    · simp at hd; subst hd; exact .inr (q5 k h1)
theorem lb_put (src dst : Int) (u : Value) (bs : List Int) (h : LB w0 w g side v ds vb es) (hu : Vw .u8 w u bs) (ha : AllB bs) (hl : bs.length ≤ 140737488355328) (h1 : nodeB src = true) (h2 : nodeB dst = true) (hn : ds.length < 4096) :
    Calls Try.prog 10 #[.pointer (some ⟨g, 0, none⟩), .agg #[.int .i64 src, .int .i64 dst, u]] w fun e w' => ∃ v' u', e = .returned (.int .i64 0) ∧ LB w0 w' g side v' (ds ++ [⟨src, dst, u', bs⟩]) vb es ∧ Fr (fun k => k = g ∨ k ∈ feet v ds) w w' ∧ (∀ k, k ∈ feet v' (ds ++ [⟨src, dst, u', bs⟩]) → k ∈ feet v ds ∨ w.heap.size ≤ k) := by
  refine (lput_good src dst u bs w h.la.ls hu ha hl h1 h2 hn).mono ?_
  rintro e w' ⟨v', u', q1, q2, q3, q4, q5⟩
  exact ⟨v', u', q1, h.lane_put q2 q3 q4 q5, q3.mono (fun k _ hk => hk.imp id feet_v), put_feet q4 q5⟩
theorem lb_double (i : Nat) (d : Dg) (h : LB w0 w g side v ds vb es) (hd : ds[i]? = some d) (h1 : nodeB d.src = true) (h2 : nodeB d.dst = true) (hn : ds.length < 4096) :
    Calls Try.prog 16 #[.pointer (some ⟨g, 0, none⟩), .int .i64 (i : Int)] w fun e w' => ∃ v' u', e = .returned (.int .i64 0) ∧ LB w0 w' g side v' (ds ++ [⟨d.src, d.dst, u', d.bs⟩]) vb es ∧ Fr (fun k => k = g ∨ k ∈ feet v ds) w w' ∧ (∀ k, k ∈ feet v' (ds ++ [⟨d.src, d.dst, u', d.bs⟩]) → k ∈ feet v ds ∨ w.heap.size ≤ k) := by
  have hg := h.la.ls.dr.dg d (List.mem_of_getElem? hd)
  refine ldouble_at i d w h.la.ls hd ((lb_put d.src d.dst d.v d.bs h (Vw.of_row hg.row) hg.ab hg.len h1 h2 hn).mono ?_)
  rintro e w' ⟨v', u', q1, q2⟩
  exact ⟨⟨0, q1⟩, v', u', q1, q2⟩
theorem lb_take (i : Nat) (d : Dg) (h : LB w0 w g side v ds vb es) (hd : ds[i]? = some d) :
    Calls Try.prog 13 #[.pointer (some ⟨g, 0, none⟩), .int .i64 (i : Int)] w fun e w' => ∃ v', e = .returned (.tuple #[.agg #[.int .i64 d.src, .int .i64 d.dst, d.v], .int .i64 0]) ∧ LB w0 w' g side v' (ds.eraseIdx i) vb es ∧ DgIs w' d ∧ Fr (fun k => k = g ∨ k ∈ feet v ds) w w' := by
  refine (ltake_c i d w h.la hd).mono ?_
  rintro e w' ⟨v', q1, q2, q3, _, _, _, _, q8, q9⟩
  exact ⟨v', q1, h.lane_take q2 q8 q9, q3, q8.mono (fun k _ hk => hk.imp id feet_v)⟩
theorem lb_flip (i p : Nat) (d : Dg) (h : LB w0 w g side v ds vb es) (hd : ds[i]? = some d) (hb : p / 8 < d.bs.length) (hp : p ≤ 9223372036854775807) :
    Calls Try.prog 18 #[.pointer (some ⟨g, 0, none⟩), .int .i64 (i : Int), .int .i64 (p : Int)] w fun e w' => e = .returned (.int .i64 0) ∧ LB w0 w' g side v (ds.set i ⟨d.src, d.dst, d.v, d.bs.set (p / 8) (xbit (d.bs.getD (p / 8) 0) (p % 8))⟩) vb es ∧ Fr (fun k => k = g ∨ k ∈ feet v ds) w w' := by
  refine (lflip_c i p d w h.la hd hb hp).mono ?_
  rintro e w' ⟨q1, q2, q3⟩
  exact ⟨q1, h.lane_flip hd q2 q3, q3.mono (fun k _ hk => .inr (feet_d (List.mem_of_getElem? hd) hk))⟩
theorem lb_cut (s : Int) (h : LB w0 w g side v ds vb es) : Calls Try.prog 20 #[.pointer (some ⟨g, 0, none⟩), .int .i64 s] w fun e w' => e = .returned (.int .i64 0) ∧ LB w0 w' g s v ds vb es ∧ Fr (fun k => k = g ∨ k ∈ feet v ds) w w' := by
  refine (lcut_c s w h.la).mono ?_
  rintro e w' ⟨q1, q2, q3⟩
  exact ⟨q1, h.lane_cut q2 q3, q3.mono (fun k _ hk => .inl hk)⟩
end
theorem node_bring (x : Int) : nodeB (1 + bring x 8) = true := by
  have := bring_bd x 8 (by decide)
  unfold nodeB; exact decide_eq_true (by omega)
def NodesOk (es : List Dg) : Prop := ∀ e ∈ es, nodeB e.src = true ∧ nodeB e.dst = true
theorem NodesOk.push {es : List Dg} (h : NodesOk es) (d : Dg) (h1 : nodeB d.src = true) (h2 : nodeB d.dst = true) : NodesOk (es ++ [d]) := fun e he => by
  rcases List.mem_append.1 he with he | he
  · exact h e he
  · simp at he; subst he; exact ⟨h1, h2⟩
theorem NodesOk.erase {es : List Dg} (h : NodesOk es) (i : Nat) : NodesOk (es.eraseIdx i) := fun e he => h e (List.mem_of_mem_eraseIdx he)
theorem NodesOk.set {es : List Dg} (h : NodesOk es) (i : Nat) (d : Dg) (h1 : nodeB d.src = true) (h2 : nodeB d.dst = true) : NodesOk (es.set i d) := fun e he => by
  rcases List.mem_or_eq_of_mem_set he with he | he
  · exact h e he
  · subst he; exact ⟨h1, h2⟩
theorem xbit_bd (y : Int) (b : Nat) (hy : 0 ≤ y ∧ y ≤ 255) (hb : b < 8) : 0 ≤ xbit y b ∧ xbit y b ≤ 255 := by
  obtain ⟨n, rfl⟩ := Int.eq_ofNat_of_zero_le hy.1
  unfold xbit
  rw [Int.toNat_natCast]
  have h1 : 2 ^ b < 2 ^ 8 := Nat.pow_lt_pow_right (by decide) hb
  have h2 : n ^^^ 2 ^ b < 2 ^ 8 := Nat.xor_lt_two_pow (by omega) h1
  omega
theorem xbit_num (y : Int) (b : Nat) (hy : 0 ≤ y ∧ y ≤ 255) (hb : b < 8) : bits .xor .u8 y ((2 : Int) ^ b % 256) = xbit y b := by
  obtain ⟨n, rfl⟩ := Int.eq_ofNat_of_zero_le hy.1
  unfold xbit
  rw [Int.toNat_natCast]
  have hpow : ((2 : Int) ^ b % 256) = ((2 ^ b : Nat) : Int) := by
    have : b = 0 ∨ b = 1 ∨ b = 2 ∨ b = 3 ∨ b = 4 ∨ b = 5 ∨ b = 6 ∨ b = 7 := by omega
    rcases this with rfl | rfl | rfl | rfl | rfl | rfl | rfl | rfl <;> rfl
  have hpl : 2 ^ b < 2 ^ 8 := Nat.pow_lt_pow_right (by decide) hb
  rw [hpow]
  exact u8_xor_nat n (2 ^ b) (by omega) hpl
end Go.Proofs.Ytcmdjcpbidbkjaa
