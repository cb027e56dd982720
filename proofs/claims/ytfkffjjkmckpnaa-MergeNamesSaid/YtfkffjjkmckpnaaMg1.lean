/-
  MERGES (ch 25): items, streams and merges in memory. Conditions: none; no walk.
-/
import Derived.Test.YtfkffjjkmckpnaaKcmp
import Derived.Test.YtfkffjjkmckpnaaOrow
import Derived.Test.YtfkffjjkmckpnaaVw
import Derived.Test.YtfkffjjkmckpnaaVwFns
import Derived.Test.YtfkffjjkmckpnaaMaps
import Derived.Test.YtfkffjjkmckpnaaBig
namespace Go.Proofs.Ytfkffjjkmckpnaa
open Go.RowKit

set_option linter.unusedSimpArgs false
/-- An item, but for where its body lies. -/
structure PI where
  k : Ky
  kd : Int
  og : Int
  lf : Int
  id : Int
  pt : Int
  ps : Int
  gr : Int
  sf : Bool
  fr : Ky
  bs : List Int
  pr : Int
  pi : Int
  pj : Int
  pm : Int
/-- An item in memory. -/
structure It where
  x : PI
  v : Value
def PI.l (x : PI) (v : Value) : List Value := [.int .i64 x.k.s, .int .i64 x.k.r, .int .i64 x.k.p, .int .i64 x.k.q, .int .i64 x.kd, .int .i64 x.og, .int .i64 x.lf, .int .i64 x.id, .int .i64 x.pt, .int .i64 x.ps, .int .i64 x.gr, .bool x.sf, .int .i64 x.fr.s, .int .i64 x.fr.r, .int .i64 x.fr.p, .int .i64 x.fr.q, v, .int .i64 x.pr, .int .i64 x.pi, .int .i64 x.pj, .int .i64 x.pm]
def PI.a (x : PI) (v : Value) : Array Value := #[.int .i64 x.k.s, .int .i64 x.k.r, .int .i64 x.k.p, .int .i64 x.k.q, .int .i64 x.kd, .int .i64 x.og, .int .i64 x.lf, .int .i64 x.id, .int .i64 x.pt, .int .i64 x.ps, .int .i64 x.gr, .bool x.sf, .int .i64 x.fr.s, .int .i64 x.fr.r, .int .i64 x.fr.p, .int .i64 x.fr.q, v, .int .i64 x.pr, .int .i64 x.pi, .int .i64 x.pj, .int .i64 x.pm]
def It.l (x : It) : List Value := x.x.l x.v
theorem It.len (x : It) : x.l.length = 21 := rfl
theorem slice_one (w : World) {v : Value} {q : IntKind} {zs : List Int} (h : Vw q w v zs) : v.oneCell' = true := by
  obtain ⟨ao, cap, rfl, _⟩ := h
  rfl
/-- An item's body lies there. -/
def bodyAt (w : World) (v : Value) (bs : List Int) : Prop := Vw .u8 w v bs ∧ AllB bs ∧ bs.length ≤ 140737488351232
/-- An item's body lies there, in a block of bytes. -/
def It.at (w : World) (x : It) : Prop := bodyAt w x.v x.x.bs ∧ (x.x.bs ≠ [] → ∀ b, b ∈ footOf x.v → ∃ cs, Blk w b cs 5)
/-- Where the bodies of items lie. -/
def bodies (L : List It) (b : Nat) : Prop := ∃ x ∈ L, x.x.bs ≠ [] ∧ b ∈ footOf x.v
theorem bodyAt.keep {S : Nat → Prop} {w w' : World} {v : Value} {bs : List Int} (h : bodyAt w v bs) (f : Fr S w w') (hS : ∀ b, bs ≠ [] → b ∈ footOf v → ¬ S b) : bodyAt w' v bs := by
  refine ⟨?_, h.2⟩
  by_cases h0 : bs = []
  · obtain ⟨ao, cap, e, h1, h2, h3, _⟩ := h.1
    exact ⟨ao, cap, e, h1, h2, h3, fun i hi => by rw [h0] at hi; simp at hi⟩
  · exact h.1.keep f (fun b hb => hS b h0 hb)
theorem It.at.keep {S : Nat → Prop} {w w' : World} {x : It} (h : x.at w) (f : Fr S w w') (hS : ∀ b, x.x.bs ≠ [] → b ∈ footOf x.v → ¬ S b) : x.at w' :=
  ⟨h.1.keep f hS, fun h0 b hb => by obtain ⟨cs, k⟩ := h.2 h0 b hb; exact ⟨cs, k.keep f (hS b h0 hb)⟩⟩
/-- A row of items of one's own. -/
def Its (w : World) (v : Value) (L : List It) : Prop := ORow w 46 21 v L.length (L.flatMap It.l) ∧ ∀ x ∈ L, x.at w
theorem Its.nil (w : World) : Its w (.slice none 0 0) [] := ⟨ORow.nil _ _ _, fun x hx => by simp at hx⟩
theorem Its.keep {S : Nat → Prop} {w w' : World} {v : Value} {L : List It} (h : Its w v L) (f : Fr S w w') (h1 : ∀ b, b ∈ footOf v → ¬ S b) (h2 : ∀ b, bodies L b → ¬ S b) : Its w' v L :=
  ⟨h.1.keep f h1, fun x hx => (h.2 x hx).keep f (fun b h0 hb => h2 b ⟨x, hx, h0, hb⟩)⟩
theorem Its.body {w : World} {v : Value} {L : List It} (h : Its w v L) {b : Nat} (hb : bodies L b) : ∃ cs, Blk w b cs 5 := by
  obtain ⟨x, hx, h0, hb⟩ := hb
  exact (h.2 x hx).2 h0 b hb
theorem flat_at {L : List It} {i j : Nat} (hi : i < L.length) (hj : j < 21) : (L.flatMap It.l)[i * 21 + j]? = (L[i]).l[j]? := by
  induction L generalizing i with
  | nil => simp at hi
  | cons x r ih =>
    cases i with
    | zero =>
      rw [Nat.zero_mul, Nat.zero_add, List.flatMap_cons, List.getElem?_append_left (by rw [x.len]; exact hj)]
      rfl
    | succ i =>
      rw [List.flatMap_cons, List.getElem?_append_right (by rw [x.len]; omega), x.len, show (i + 1) * 21 + j - 21 = i * 21 + j by omega]
      exact ih (by simpa using hi)
theorem flat_len (L : List It) : (L.flatMap It.l).length = L.length * 21 := by
  induction L with
  | nil => rfl
  | cons x r ih => simp [List.flatMap_cons, It.len, ih]; omega
/-- A stream in memory. -/
structure SM where
  h : Nat
  fl : Ky
  v : Value
  L : List It
def SM.a (s : SM) : Array Value := #[.int .i64 s.fl.s, .int .i64 s.fl.r, .int .i64 s.fl.p, .int .i64 s.fl.q, s.v]
def mgA (m : Nat) (k : Ky) : Array Value := #[.map (some m), .int .i64 k.s, .int .i64 k.r, .int .i64 k.p, .int .i64 k.q]
/-- At block p lies a merge, with its map at m, the streams F, the last key la. -/
structure MG (w : World) (p m : Nat) (F : Int → Option SM) (la : Ky) : Prop where
  blk : Blk w p (mgA m la) 71
  map : ∃ M, MapIs w m (Value.int .i64) M ∧ (∀ k, look M k = (F k).map fun s => .pointer (some ⟨s.h, 0, none⟩)) ∧ (M.map (·.1)).Nodup
  ent : ∀ k s, F k = some s → Blk w s.h s.a 76 ∧ Its w s.v s.L
  sep : ∀ k s k' s', F k = some s → F k' = some s' → k ≠ k' → s.h ≠ s'.h ∧ ∀ b, b ∈ footOf s.v → ¬ b ∈ footOf s'.v
  dom : ∀ k s, F k = some s → 0 ≤ k ∧ k ≤ 8
/-- Where a merge lies. -/
def mfp (p m : Nat) (F : Int → Option SM) (b : Nat) : Prop := b = p ∨ b = m ∨ ∃ k s, F k = some s ∧ (b = s.h ∨ b ∈ footOf s.v ∨ bodies s.L b)
section
variable {w w' : World} {p m : Nat} {F : Int → Option SM} {la : Ky}
theorem MG.keep {S : Nat → Prop} (h : MG w p m F la) (f : Fr S w w') (hn : ∀ b, mfp p m F b → ¬ S b) : MG w' p m F la := by
  obtain ⟨M, h1, h2⟩ := h.map
  exact ⟨h.blk.keep f (hn _ (.inl rfl)), ⟨M, h1.keep f (hn _ (.inr (.inl rfl))), h2⟩, fun k s hs => ⟨(h.ent k s hs).1.keep f (hn _ (.inr (.inr ⟨k, s, hs, .inl rfl⟩))), (h.ent k s hs).2.keep f (fun b hb => hn b (.inr (.inr ⟨k, s, hs, .inr (.inl hb)⟩))) (fun b hb => hn b (.inr (.inr ⟨k, s, hs, .inr (.inr hb)⟩)))⟩, h.sep, h.dom⟩
theorem MG.keep0 (h : MG w p m F la) (f : Fr (fun _ => False) w w') : MG w' p m F la := h.keep f (fun _ _ h => h)
theorem MG.live (h : MG w p m F la) : ∀ b, mfp p m F b → b < w.heap.size := by
  rintro b (rfl | rfl | ⟨k, s, hs, rfl | hb | hb⟩)
  · exact h.blk.lt
  · obtain ⟨M, h1, _⟩ := h.map; exact h1.lt
  · exact (h.ent k s hs).1.lt
  · exact (h.ent k s hs).2.1.live b hb
  · obtain ⟨cs, k⟩ := (h.ent k s hs).2.body hb; exact k.lt
/-- The map's block is no row. -/
theorem MG.map_ne (h : MG w p m F la) {b : Nat} {cs : Array Value} {t : TypeId} (k : Blk w b cs t) : b ≠ m := by
  rintro rfl
  obtain ⟨M, ⟨es, cl, g, _⟩, _⟩ := h.map
  unfold Blk at k
  rw [k] at g
  simp at g
/-- One stream turns: its block, and its row, which may grow elsewhere. -/
theorem MG.turn (h : MG w p m F la) {n : Int} {s s' : SM} (hs : F n = some s) (hh : s'.h = s.h) (f : Fr (fun b => b = s.h ∨ b ∈ footOf s.v) w w') (B : Blk w' s.h s'.a 76) (I : Its w' s'.v s'.L) (hg : ∀ b, b ∈ footOf s'.v → b ∈ footOf s.v ∨ w.heap.size ≤ b) : MG w' p m (fun k => if k = n then some s' else F k) la := by
  obtain ⟨e1, e2⟩ := h.ent n s hs
  have kT : ∀ {b : Nat} {cs : Array Value} {t : TypeId}, Blk w b cs t → t ≠ 76 → t ≠ 46 → ¬ (b = s.h ∨ b ∈ footOf s.v) := by
    rintro b cs t k h1 h2 (rfl | hb)
    · exact h1 (k.type e1)
    · obtain ⟨ds, k'⟩ := e2.1.type hb
      exact h2 (k.type k')
  obtain ⟨M, hM, hL⟩ := h.map
  have hmN : ¬ (m = s.h ∨ m ∈ footOf s.v) := by
    rintro (e | hb)
    · exact h.map_ne e1 e.symm
    · obtain ⟨ds, k'⟩ := e2.1.type hb
      exact h.map_ne k' rfl
  refine ⟨h.blk.keep f (kT h.blk (by decide) (by decide)), ⟨M, hM.keep f hmN, fun k => ?_, hL.2⟩, fun k d hd => ?_, fun k d k' d' hd hd' hne => ?_, fun k d hd => ?_⟩
  · by_cases hk : k = n
    · subst hk; rw [hL.1]; simp [hs, hh]
    · simp only [if_neg hk]; exact hL.1 k
  · by_cases hk : k = n
    · simp only [if_pos hk, Option.some.injEq] at hd
      subst hd
      rw [hh]
      exact ⟨B, I⟩
    · simp only [if_neg hk] at hd
      obtain ⟨g1, g2⟩ := h.ent k d hd
      obtain ⟨s1, s2⟩ := h.sep k d n s hd hs hk
      refine ⟨g1.keep f ?_, g2.keep f (fun b hb => ?_) (fun b hb => ?_)⟩
      · rintro (e | hb)
        · exact s1 e
        · obtain ⟨ds, k'⟩ := e2.1.type hb
          exact absurd (g1.type k') (by decide)
      · rintro (rfl | hb')
        · obtain ⟨ds, k'⟩ := g2.1.type hb
          exact absurd (e1.type k') (by decide)
        · exact s2 b hb hb'
      · obtain ⟨ds, k'⟩ := g2.body hb
        exact kT k' (by decide) (by decide)
  · have key : ∀ k d, (if k = n then some s' else F k) = some d → ∃ d0, F k = some d0 ∧ d.h = d0.h ∧ ∀ b, b ∈ footOf d.v → b ∈ footOf d0.v ∨ w.heap.size ≤ b := fun k d hd => by
      by_cases hk : k = n
      · simp only [if_pos hk, Option.some.injEq] at hd
        subst hd
        exact ⟨s, hk ▸ hs, hh, hg⟩
      · simp only [if_neg hk] at hd
        exact ⟨d, hd, rfl, fun b hb => .inl hb⟩
    have only : ∀ k d, k ≠ n → (if k = n then some s' else F k) = some d → F k = some d := fun k d hk hd => by simpa only [if_neg hk] using hd
    obtain ⟨x, x1, x2, x3⟩ := key k d hd
    obtain ⟨y, y1, y2, y3⟩ := key k' d' hd'
    obtain ⟨s1, s2⟩ := h.sep k x k' y x1 y1 hne
    refine ⟨by rw [x2, y2]; exact s1, fun b hb hb' => ?_⟩
    have lx := fun b hb => (h.ent k x x1).2.1.live b hb
    have ly := fun b hb => (h.ent k' y y1).2.1.live b hb
    by_cases hk : k = n
    · have hk' : k' ≠ n := fun e => hne (hk.trans e.symm)
      have e := only k' d' hk' hd'
      rw [y1] at e
      injection e with e
      subst e
      rcases x3 b hb with h | h
      · exact s2 b h hb'
      · have := ly b hb'; omega
    · have e := only k d hk hd
      rw [x1] at e
      injection e with e
      subst e
      rcases y3 b hb' with h | h
      · exact s2 b hb h
      · have := lx b hb; omega
  · by_cases hk : k = n
    · subst hk; exact h.dom k s hs
    · simp only [if_neg hk] at hd; exact h.dom k d hd
/-- The last key turns. -/
theorem MG.told (h : MG w p m F la) {la' : Ky} (f : Fr (· = p) w w') (B : Blk w' p (mgA m la') 71) : MG w' p m F la' := by
  obtain ⟨M, hM, hL⟩ := h.map
  refine ⟨B, ⟨M, hM.keep f (fun e => h.map_ne h.blk e.symm), hL⟩, fun k s hs => ?_, h.sep, h.dom⟩
  obtain ⟨g1, g2⟩ := h.ent k s hs
  refine ⟨g1.keep f (fun e => absurd ((e ▸ g1).type h.blk) (by decide)), g2.keep f (fun b hb e => ?_) (fun b hb e => ?_)⟩
  · obtain ⟨ds, k'⟩ := g2.1.type hb
    exact absurd ((e ▸ k').type h.blk) (by decide)
  · obtain ⟨ds, k'⟩ := g2.body hb
    exact absurd ((e ▸ k').type h.blk) (by decide)
end
end Go.Proofs.Ytfkffjjkmckpnaa
