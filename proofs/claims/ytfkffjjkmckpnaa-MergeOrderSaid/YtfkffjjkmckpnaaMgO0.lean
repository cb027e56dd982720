/-
  MERGES (ch 25): STREAMS THAT COME IN BY TURNS, in plain Lean; lists of lists that come in. Conditions: none; no walk.
-/
import Derived.Test.YtfkffjjkmckpnaaMgL
import Derived.Test.YtfkffjjkmckpnaaLeaf
namespace Go.Proofs.Ytfkffjjkmckpnaa
open Go.RowKit Go.ChangeShapes Go.WideShapes Go.Deep

set_option linter.unusedSimpArgs false
/-! ### lists of lists that come in -/
def I64s (l : List Int) : Prop := ∀ x ∈ l, -9223372036854775808 ≤ x ∧ x ≤ 9223372036854775807
def IsLL (w : World) (v : Value) (ls : List (List Int)) : Prop := ∃ ao cap, v = .slice ao ls.length cap ∧ ls.length ≤ cap ∧ cap ≤ maxLen ∧
  ∀ i, i < ls.length → I64s (ls.getD i []) ∧ ∃ b off u, ao = some ⟨b, off, none⟩ ∧ b < w.heap.size ∧ w.cell? ⟨b, off + i, none⟩ = some u ∧ Vw .i64 w u (ls.getD i [])
theorem IsLL.keep {w w' : World} {v : Value} {ls : List (List Int)} (h : IsLL w v ls) (f : Fr (fun _ => False) w w') : IsLL w' v ls := by
  obtain ⟨ao, cap, rfl, h1, h2, h3⟩ := h
  refine ⟨ao, cap, rfl, h1, h2, fun i hi => ?_⟩
  obtain ⟨q, b, off, u, rfl, hb, hc, hv⟩ := h3 i hi
  exact ⟨q, b, off, u, rfl, Nat.lt_of_lt_of_le hb f.size, cell_fr f hc, hv.keep f (fun _ _ h => h)⟩
theorem IsLL.at {w : World} {ao : Option Addr} {n cap : Nat} {ls : List (List Int)} (h : IsLL w (.slice ao n cap) ls) (i : Nat) (hi : i < ls.length) :
    I64s (ls.getD i []) ∧ ∃ b off u, ao = some ⟨b, off, none⟩ ∧ b < w.heap.size ∧ w.cell? ⟨b, off + i, none⟩ = some u ∧ Vw .i64 w u (ls.getD i []) := by
  obtain ⟨ao', cap', he, _, _, h3⟩ := h
  injection he with e1 e2 e3
  subst e1
  exact h3 i hi
theorem ints_open {H : Type} {enc : TypeId × Value → H} {w : World} {base m : Nat} {held : Bool} {v : Value} {y : DataW H × List MemPlace} (h1 : DataW.trod enc Try.prog w base (fun _ => true) held m 23 [v] = some y) (h2 : ∀ n ∈ y.1.weights Try.prog 23, n ≤ reachBytes) : ∃ l, Vw .i64 w v l ∧ I64s l := by
  obtain ⟨a, len, cap, rfl, q1, q2, q3, q4, q5⟩ := rows_open Try.underlying23 (by rw [show Try.prog.cellsOf 3 = 1 from by kernel_rfl]; decide) h1 h2
  rw [show Try.prog.cellsOf 3 = 1 from by kernel_rfl] at q5
  have hi : ∀ i, i < len → ∃ z : Int, (-9223372036854775808 ≤ z ∧ z ≤ 9223372036854775807) ∧ ∃ b off, a = some ⟨b, off, none⟩ ∧ b < w.heap.size ∧ w.cell? ⟨b, off + i, none⟩ = some (.int .i64 z) := by
    intro i hlt
    obtain ⟨b, off, cs, m', y', hab, hb, hl, hc, ht, _⟩ := q5 i hlt
    obtain ⟨z, rfl, _, hw⟩ := DataW.trod_int Try.underlying3 ht
    refine ⟨z, wf_i64_bd hw, b, off, hab, hb, ?_⟩
    have := hc 0 (by decide)
    rw [Nat.mul_one, Nat.add_zero] at this
    exact this
  obtain ⟨f, hf⟩ := choose_lt hi
  have hg : ∀ i, i < len → ((List.range len).map f).getD i 0 = f i := fun i hlt => by
    rw [List.getD_eq_getElem?_getD]; simp [hlt]
  refine ⟨(List.range len).map f, ⟨a, cap, by simp, by simpa using q1, q2, fun h => (q4 h).2, fun i hlt => ?_⟩, fun x hx => ?_⟩
  · have hlt' : i < len := by simpa using hlt
    rw [hg i hlt']
    exact (hf i hlt').2
  · obtain ⟨i, hi, rfl⟩ := List.mem_map.1 hx
    exact (hf i (List.mem_range.1 hi)).1
set_option maxRecDepth 100000 in
theorem ll_open {H : Type} {enc : TypeId × Value → H} {w : World} {r : Reach} {b0 base : Nat} {held : Bool} {v : Value} {d : DataW H} {p : List MemPlace}
    (hok : Value.okWide Try.prog w r b0 22 v) (h : DataW.Trod enc Try.prog w base (fun _ => true) held 22 v d p) (hz : ∀ n ∈ d.weights Try.prog 22, n ≤ reachBytes) : ∃ ls, IsLL w v ls := by
  obtain ⟨a0, len0, cap0, rfl⟩ := okWide_slice Try.underlying22 hok
  obtain ⟨fuel, hf⟩ := h
  obtain ⟨a, len, cap, he, q1, q2, _, _, q5⟩ := rows_open (v := .slice a0 len0 cap0) Try.underlying22 (by rw [show Try.prog.cellsOf 23 = 1 from by kernel_rfl]; decide) hf hz
  injection he with e1 e2 e3
  subst e1; subst e2; subst e3
  rw [show Try.prog.cellsOf 23 = 1 from by kernel_rfl] at q5
  have hi : ∀ i, i < len0 → ∃ l : List Int, I64s l ∧ ∃ b off u, a0 = some ⟨b, off, none⟩ ∧ b < w.heap.size ∧ w.cell? ⟨b, off + i, none⟩ = some u ∧ Vw .i64 w u l := by
    intro i hlt
    obtain ⟨b, off, cs, m, y, hab, hb, hl, hc, ht, hw⟩ := q5 i hlt
    match cs, hl with
    | [u], _ =>
      obtain ⟨l, hl1, hl2⟩ := ints_open ht hw
      have := hc 0 (by decide)
      rw [Nat.mul_one, Nat.add_zero] at this
      exact ⟨l, hl2, b, off, u, hab, hb, this, hl1⟩
  obtain ⟨f, hf2⟩ := choose_lt hi
  refine ⟨(List.range len0).map f, a0, cap0, by simp, by simpa using q1, q2, fun i hlt => ?_⟩
  simp at hlt
  have := hf2 i hlt
  rw [List.getD_eq_getElem?_getD]
  simpa [hlt] using this
/-! ### the stamps -/
def sumS (l : List Int) : Nat → Int
  | 0 => 0
  | m + 1 => sumS l m + 1 + bring (l.getD m 0) 20
theorem sumS_bd (l : List Int) (m : Nat) : (m : Int) ≤ sumS l m ∧ sumS l m ≤ 20 * m := by
  induction m with
  | zero => exact ⟨Int.le_refl _, Int.le_refl _⟩
  | succ m ih =>
    have hb := bring_bd (l.getD m 0) 20 (by decide)
    show ((m + 1 : Nat) : Int) ≤ sumS l m + 1 + bring (l.getD m 0) 20 ∧ sumS l m + 1 + bring (l.getD m 0) 20 ≤ 20 * ((m + 1 : Nat) : Int)
    omega
def stA (l : List Int) (s m : Nat) : Int := 9 * sumS l m + s
def ptsL (l : List Int) (s m : Nat) : List Int := (List.range m).map fun j => stA l s (j + 1)
theorem pts_succ (l : List Int) (s m : Nat) : ptsL l s (m + 1) = ptsL l s m ++ [stA l s (m + 1)] := by
  unfold ptsL
  rw [List.range_succ, List.map_append]
  rfl
def rowL (ls : List (List Int)) (s : Nat) : List Int := ls.getD s []
def capL (ls : List (List Int)) (s : Nat) : Nat := min (rowL ls s).length 40
def sumN (n : Nat) (g : Nat → Nat) : Nat := match n with | 0 => 0 | n + 1 => sumN n g + g n
theorem sumN_set {n s : Nat} (h : s < n) (g : Nat → Nat) (x : Nat) : sumN n (set1 g s x) + g s = sumN n g + x := by
  have gen : ∀ m, sumN m (set1 g s x) + (if s < m then g s else 0) = sumN m g + if s < m then x else 0 := by
    intro m
    induction m with
    | zero => rfl
    | succ m ih =>
      show sumN m (set1 g s x) + set1 g s x m + _ = sumN m g + g m + _
      by_cases e : m = s
      · subst e
        rw [set1_at, if_pos (by omega), if_pos (by omega)]
        rw [if_neg (by omega), if_neg (by omega)] at ih
        omega
      · rw [set1_ne _ _ e]
        by_cases h : s < m
        · rw [if_pos h, if_pos h] at ih
          rw [if_pos (by omega), if_pos (by omega)]
          omega
        · rw [if_neg h, if_neg h] at ih
          rw [if_neg (by omega), if_neg (by omega)]
          omega
  have := gen n
  rw [if_pos h, if_pos h] at this
  exact this
theorem sumN_le {n : Nat} {g h : Nat → Nat} (hh : ∀ s, s < n → g s ≤ h s) : sumN n g ≤ sumN n h := by
  induction n with
  | zero => exact Nat.le_refl _
  | succ n ih =>
    show sumN n g + g n ≤ sumN n h + h n
    have := ih (fun s hs => hh s (by omega))
    have := hh n (by omega)
    omega
theorem sumN_eq {n : Nat} {g h : Nat → Nat} (hh : ∀ s, s < n → g s ≤ h s) (he : sumN n g = sumN n h) : ∀ s, s < n → g s = h s := by
  induction n with
  | zero => intro s hs; omega
  | succ n ih =>
    have he' : sumN n g + g n = sumN n h + h n := he
    have h1 := sumN_le (n := n) (fun s hs => hh s (by omega))
    have h2 := hh n (by omega)
    intro s hs
    by_cases e : s = n
    · subst e; omega
    · exact ih (fun s hs => hh s (by omega)) (by omega) s (by omega)
theorem cap_bd (ls : List (List Int)) (n : Nat) : sumN n (capL ls) ≤ 40 * n := by
  induction n with
  | zero => exact Nat.le_refl _
  | succ n ih =>
    show sumN n (capL ls) + capL ls n ≤ _
    have : capL ls n ≤ 40 := Nat.min_le_right _ _
    omega
/-- What has come in, and what was told. -/
structure TI (ls : List (List Int)) (n : Nat) (at_ : Nat → Nat) (f : Nat → Int) (L : Nat → List Int) (l0 : Int) (O : List Int) : Prop where
  ni : NI n 9 f L l0
  f0 : ∀ s, s < n → 0 ≤ f s
  fl : ∀ s, s < n → f s ≤ stA (rowL ls s) s (at_ s)
  up : O.Pairwise (· < ·)
  le : ∀ a ∈ O, a ≤ l0
  mem : ∀ a, (a ∈ O ∨ ∃ s, s < n ∧ a ∈ L s) ↔ ∃ s, s < n ∧ a ∈ ptsL (rowL ls s) s (at_ s)
  cap : ∀ s, s < n → at_ s ≤ capL ls s
  len : O.length + tot n L = sumN n at_
section
variable {ls : List (List Int)} {n : Nat} {at_ : Nat → Nat} {f : Nat → Int} {L : Nat → List Int} {l0 : Int} {O : List Int}
theorem TI.new (h : n ≤ 9) : TI ls n (fun _ => 0) (fun _ => 0) (fun _ => []) 0 [] where
  ni := NI.new h (Nat.le_refl _)
  f0 := fun s _ => Int.le_refl _
  fl := fun s _ => by show (0 : Int) ≤ 9 * 0 + (s : Int); omega
  up := List.Pairwise.nil
  le := fun a ha => by simp at ha
  mem := fun a => by simp [ptsL]
  cap := fun s _ => Nat.zero_le _
  len := by
    have h1 : tot n (fun _ => ([] : List Int)) = 0 := tot_zero (fun _ _ => rfl)
    have h2 : sumN n (fun _ => 0) = 0 := by
      clear h h1
      induction n with
      | zero => rfl
      | succ n ih => show sumN n (fun _ => 0) + 0 = 0; rw [ih]
    rw [h1, h2]; rfl
theorem TI.fresh (h : TI ls n at_ f L l0 O) {s : Nat} (hs : s < n) (hc : at_ s < capL ls s) : f s < stA (rowL ls s) s (at_ s + 1) ∧ stA (rowL ls s) s (at_ s + 1) % ((9 : Nat) : Int) = s ∧ 0 ≤ stA (rowL ls s) s (at_ s + 1) ∧ stA (rowL ls s) s (at_ s + 1) ≤ 10000 := by
  have h1 := h.fl s hs
  have hb := bring_bd ((rowL ls s).getD (at_ s) 0) 20 (by decide)
  have h2 := sumS_bd (rowL ls s) (at_ s + 1)
  have h3 : sumS (rowL ls s) (at_ s + 1) = sumS (rowL ls s) (at_ s) + 1 + bring ((rowL ls s).getD (at_ s) 0) 20 := rfl
  have h4 : capL ls s ≤ 40 := Nat.min_le_right _ _
  have h5 := h.ni.nm
  unfold stA at h1 ⊢
  generalize sumS (rowL ls s) (at_ s + 1) = x at *
  generalize sumS (rowL ls s) (at_ s) = y at *
  generalize bring ((rowL ls s).getD (at_ s) 0) 20 = z at *
  have h6 : x ≤ 820 := by omega
  have h7 : 0 ≤ x := by omega
  have h8 := hb.1
  clear h2 hb
  refine ⟨by omega, by omega, by omega, by omega⟩
theorem TI.put (h : TI ls n at_ f L l0 O) {s : Nat} (hs : s < n) (hc : at_ s < capL ls s) : TI ls n (set1 at_ s (at_ s + 1)) (set1 f s (stA (rowL ls s) s (at_ s + 1))) (set1 L s (L s ++ [stA (rowL ls s) s (at_ s + 1)])) l0 O := by
  obtain ⟨q1, q2, q3, q4⟩ := h.fresh hs hc
  refine ⟨(h.ni.put hs q2 q3 (by omega) q1).2.2, fun t ht => ?_, fun t ht => ?_, h.up, h.le, fun a => ?_, fun t ht => ?_, ?_⟩
  · by_cases e : t = s
    · subst e; rw [set1_at]; exact q3
    · rw [set1_ne _ _ e]; exact h.f0 t ht
  · by_cases e : t = s
    · subst e; rw [set1_at, set1_at]; exact Int.le_refl _
    · rw [set1_ne _ _ e, set1_ne _ _ e]; exact h.fl t ht
  · have hm := h.mem a
    constructor
    · rintro (ha | ⟨t, ht, ha⟩)
      · obtain ⟨t, ht, hb⟩ := hm.1 (.inl ha)
        refine ⟨t, ht, ?_⟩
        by_cases e : t = s
        · subst e; rw [set1_at, pts_succ]; exact List.mem_append_left _ hb
        · rw [set1_ne _ _ e]; exact hb
      · by_cases e : t = s
        · subst e
          rw [set1_at] at ha
          rcases List.mem_append.1 ha with ha | ha
          · obtain ⟨u, hu, hb⟩ := hm.1 (.inr ⟨t, ht, ha⟩)
            refine ⟨u, hu, ?_⟩
            by_cases e : u = t
            · subst e; rw [set1_at, pts_succ]; exact List.mem_append_left _ hb
            · rw [set1_ne _ _ e]; exact hb
          · simp at ha
            subst ha
            exact ⟨t, ht, by rw [set1_at, pts_succ]; exact List.mem_append_right _ (by simp)⟩
        · rw [set1_ne _ _ e] at ha
          obtain ⟨u, hu, hb⟩ := hm.1 (.inr ⟨t, ht, ha⟩)
          refine ⟨u, hu, ?_⟩
          by_cases e : u = s
          · subst e; rw [set1_at, pts_succ]; exact List.mem_append_left _ hb
          · rw [set1_ne _ _ e]; exact hb
    · rintro ⟨t, ht, ha⟩
      by_cases e : t = s
      · subst e
        rw [set1_at, pts_succ] at ha
        rcases List.mem_append.1 ha with ha | ha
        · rcases hm.2 ⟨t, ht, ha⟩ with hb | ⟨u, hu, hb⟩
          · exact .inl hb
          · refine .inr ⟨u, hu, ?_⟩
            by_cases e : u = t
            · subst e; rw [set1_at]; exact List.mem_append_left _ hb
            · rw [set1_ne _ _ e]; exact hb
        · simp at ha
          subst ha
          exact .inr ⟨t, ht, by rw [set1_at]; exact List.mem_append_right _ (by simp)⟩
      · rw [set1_ne _ _ e] at ha
        rcases hm.2 ⟨t, ht, ha⟩ with hb | ⟨u, hu, hb⟩
        · exact .inl hb
        · refine .inr ⟨u, hu, ?_⟩
          by_cases e : u = s
          · subst e; rw [set1_at]; exact List.mem_append_left _ hb
          · rw [set1_ne _ _ e]; exact hb
  · by_cases e : t = s
    · subst e; rw [set1_at]; exact hc
    · rw [set1_ne _ _ e]; exact h.cap t ht
  · have h1 := tot_set (L := L) hs (L s ++ [stA (rowL ls s) s (at_ s + 1)])
    have h2 := sumN_set hs at_ (at_ s + 1)
    have h3 := h.len
    rw [List.length_append, List.length_singleton] at h1
    omega
theorem TI.told {S' : SP} {la' : Ky} {out : List PI} (h : TI ls n at_ f L l0 O) (t : Told mayT (isP n f L) (ky l0) S' la' out) :
    ∃ (L' : Nat → List Int) (l1 : Int) (O1 : List Int), S' = isP n f L' ∧ la' = ky l1 ∧ out = O1.map oneP ∧ TI ls n at_ f L' l1 (O ++ O1) ∧ nextS mayT ⟨isP n f L', ky l1, O1.map oneP⟩ = none := by
  obtain ⟨L', l1, O1, e1, e2, e3, k1, k2, k3, k4, k5, k6, k7⟩ := h.ni.told t
  refine ⟨L', l1, O1, e1, e2, e3, ⟨k1, h.f0, h.fl, ?_, fun a ha => ?_, fun a => ?_, h.cap, ?_⟩, k7⟩
  · rw [List.pairwise_append]
    exact ⟨h.up, k3, fun a ha b hb => by have := h.le a ha; have := (k4 b hb).1; omega⟩
  · rcases List.mem_append.1 ha with ha | ha
    · have := h.le a ha; omega
    · exact (k4 a ha).2
  · rw [← h.mem a, ← k5 a, List.mem_append, or_assoc]
  · rw [List.length_append]
    have := h.len
    omega
/-! ### it ends -/
def distF (p : Nat → Bool) (n : Nat) : Nat → Nat → Nat
  | 0, _ => 0
  | f + 1, k => if p (k % n) then 0 else 1 + distF p n f (k + 1)
theorem distF_le (p : Nat → Bool) (n : Nat) : ∀ f k, distF p n f k ≤ f := by
  intro f
  induction f with
  | zero => intro k; exact Nat.le_refl _
  | succ f ih =>
    intro k
    unfold distF
    split
    · omega
    · have := ih (k + 1); omega
theorem distF_min (p : Nat → Bool) (n : Nat) : ∀ f k e, p ((k + e) % n) = true → distF p n f k ≤ e := by
  intro f
  induction f with
  | zero => intro k e _; exact Nat.zero_le _
  | succ f ih =>
    intro k e he
    unfold distF
    split
    · omega
    · rename_i h
      cases e with
      | zero => exact absurd he h
      | succ e =>
        have := ih (k + 1) e (by rw [show k + 1 + e = k + (e + 1) by omega]; exact he)
        omega
theorem distF_at (p : Nat → Bool) (n : Nat) : ∀ f k, distF p n f k < f → p ((k + distF p n f k) % n) = true := by
  intro f
  induction f with
  | zero => intro k h; exact absurd h (Nat.not_lt_zero _)
  | succ f ih =>
    intro k h
    unfold distF at h ⊢
    split
    · rename_i hp; exact hp
    · rename_i hp
      rw [if_neg hp] at h
      have := ih (k + 1) (by omega)
      rw [show k + (1 + distF p n f (k + 1)) = k + 1 + distF p n f (k + 1) by omega]
      exact this
/-- A round in which nothing comes in brings the next one nearer. -/
theorem dist_step {p : Nat → Bool} {n k : Nat} (hp : p (k % n) = false) (hs : ∃ s, s < n ∧ p s = true) : distF p n n (k + 1) < distF p n n k := by
  obtain ⟨s, hs, hps⟩ := hs
  have hk : k % n < n := Nat.mod_lt _ (by omega)
  have he : ∃ e, e < n ∧ (k + e) % n = s := by
    by_cases h : k % n ≤ s
    · refine ⟨s - k % n, by omega, ?_⟩
      rw [Nat.add_mod, Nat.mod_eq_of_lt (by omega : s - k % n < n), show k % n + (s - k % n) = s by omega, Nat.mod_eq_of_lt hs]
    · refine ⟨n + s - k % n, by omega, ?_⟩
      rw [Nat.add_mod, Nat.mod_eq_of_lt (by omega : n + s - k % n < n), show k % n + (n + s - k % n) = n + s by omega, Nat.add_mod_left, Nat.mod_eq_of_lt hs]
  obtain ⟨e, he1, he2⟩ := he
  have h1 := distF_min p n n k e (by rw [he2]; exact hps)
  have h2 := distF_at p n n k (by omega)
  generalize distF p n n k = d at *
  cases d with
  | zero => rw [Nat.add_zero, hp] at h2; cases h2
  | succ d =>
    have := distF_min p n n (k + 1) d (by rw [show k + 1 + d = k + (d + 1) by omega]; exact h2)
    omega
def open_ (ls : List (List Int)) (at_ : Nat → Nat) (s : Nat) : Bool := decide (at_ s < capL ls s)
def muT (ls : List (List Int)) (T n k : Nat) (at_ : Nat → Nat) : Nat := (T - k) * 10000 + (sumN n (capL ls) - sumN n at_) * (n + 1) + distF (open_ ls at_) n n k
theorem left_bd {ls : List (List Int)} {n : Nat} (h : n ≤ 9) (x : Nat) : (sumN n (capL ls) - x) * (n + 1) ≤ 3600 := by
  have h1 := cap_bd ls n
  have h2 : sumN n (capL ls) - x ≤ 360 := by omega
  calc (sumN n (capL ls) - x) * (n + 1) ≤ 360 * 10 := Nat.mul_le_mul h2 (by omega)
    _ = 3600 := rfl
theorem mu_skip (h : TI ls n at_ f L l0 O) {T k i : Nat} (hn : n ≤ 9) (hi : i < n) (hc : ¬ at_ i < capL ls i) (hT : ¬ k < T → i = k % n) (hleft : sumN n at_ < sumN n (capL ls)) : muT ls T n (k + 1) at_ < muT ls T n k at_ := by
  unfold muT
  by_cases hk : k < T
  · have := distF_le (open_ ls at_) n n (k + 1)
    have e : T - k = T - (k + 1) + 1 := by omega
    rw [e, Nat.add_mul]
    omega
  · have hik := hT hk
    have := dist_step (p := open_ ls at_) (n := n) (k := k) (by unfold open_; rw [← hik]; exact decide_eq_false hc) (by
      refine Classical.byContradiction fun hno => ?_
      have : sumN n at_ = sumN n (capL ls) := by
        have h2 : ∀ s, s < n → capL ls s ≤ at_ s := fun s hs => by
          by_cases e : at_ s < capL ls s
          · exact absurd ⟨s, hs, decide_eq_true e⟩ hno
          · omega
        have := sumN_le h2
        have := sumN_le h.cap
        omega
      omega)
    have e1 : T - k = 0 := by omega
    have e2 : T - (k + 1) = 0 := by omega
    rw [e1, e2]
    omega
theorem mu_put (h : TI ls n at_ f L l0 O) {T k i : Nat} (hn : n ≤ 9) (hi : i < n) (hc : at_ i < capL ls i) : muT ls T n (k + 1) (set1 at_ i (at_ i + 1)) < muT ls T n k at_ := by
  unfold muT
  have h1 := sumN_set hi at_ (at_ i + 1)
  have h2 := sumN_le (h.put hi hc).cap
  have h3 := distF_le (open_ ls (set1 at_ i (at_ i + 1))) n n (k + 1)
  have e : sumN n (capL ls) - sumN n at_ = sumN n (capL ls) - sumN n (set1 at_ i (at_ i + 1)) + 1 := by omega
  have e2 : (T - (k + 1)) * 10000 ≤ (T - k) * 10000 := Nat.mul_le_mul_right _ (by omega)
  rw [e, Nat.add_mul]
  omega
end
end Go.Proofs.Ytfkffjjkmckpnaa
