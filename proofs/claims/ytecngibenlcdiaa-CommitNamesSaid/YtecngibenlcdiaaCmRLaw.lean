/-
  THE PLAIN LAW OF A COMMIT'S TWO ROUNDS. Conditions: as many entries as members, each of its node.
-/
import Derived.Test.YtecngibenlcdiaaCmKLaw
import Derived.Test.YtecngibenlcdiaaCm9
namespace Go.Proofs.Ytecngibenlcdiaa
open Go.RowKit

theorem chk_all : (List.range 512).all (fun x => x % 2 == 1 || !chkV ((x : Nat) : Int)) = true := by kernel_rfl
theorem chk_ok {x : Nat} (h : x < 512) (h2 : x % 2 = 0) : chkV (x : Int) = false := by
  have := List.all_eq_true.1 chk_all x (List.mem_range.2 h)
  simpa [h2] using this
/-- A commit at so many hops. -/
def CR (q : Nat) (E : List Ent) (hop : Nat) : Cm := ⟨1001, (lst (q : Int) 8).getD 0 0, q, hop, E.take hop⟩
structure RD (q : Nat) (E : List Ent) : Prop where
  lt : q < 512
  even : q % 2 = 0
  len : E.length = (lst (q : Int) 8).length
  pos : 0 < E.length
  ent : ∀ i, i < E.length → (E.getD i ez).n = (lst (q : Int) 8).getD i 0 ∧ okE (E.getD i ez) = true ∧ (E.getD i ez).c ≤ 9007199254740990
theorem cr_mem {q : Nat} {E : List Ent} (h : RD q E) (hop : Nat) : mem (CR q E hop) = lst (q : Int) 8 := by
  unfold mem CR
  simp only
  rw [chk_ok h.lt h.even]
  rfl
theorem take_getD {E : List Ent} {i k : Nat} (h : i < k) : (E.take k).getD i ez = E.getD i ez := by
  simp only [List.getD_eq_getElem?_getD, List.getElem?_take]
  rw [if_pos h]
theorem cr_ok {q : Nat} {E : List Ent} (h : RD q E) {hop : Nat} (h1 : 1 ≤ hop) (h2 : hop ≤ 2 * E.length) : okC (CR q E hop) = true := by
  have hm := cr_mem h hop
  have hlen := h.len
  have hpos := h.pos
  have hl8 := lst_len (q : Int) 8
  refine okC_all ((okHead_iff _).2 ?_) (fun i hi => ?_)
  · have h0 : (lst (q : Int) 8).getD 0 0 ∈ lst (q : Int) 8 := by
      rw [getD_of (show 0 < (lst (q : Int) 8).length by omega)]
      exact List.getElem_mem _
    have hin := lst_in (q : Int) 8 (by omega) _ h0
    refine ⟨by rw [hm]; omega, ?_, by rw [hm]; rfl, ?_, ?_, ?_⟩
    · rw [okR_iff]; show (0 : Int) < 1001 ∧ (1001 : Int) ≤ _ ∧ 0 < (lst (q : Int) 8).getD 0 0 ∧ (lst (q : Int) 8).getD 0 0 ≤ 8
      omega
    · show (1 : Int) ≤ (hop : Int); omega
    · rw [hm]; show (hop : Int) ≤ 2 * ((lst (q : Int) 8).length : Int); omega
    · rw [hm]
      show (((E.take hop).length : Nat) : Int) = if ((lst (q : Int) 8).length : Int) < (hop : Int) then ((lst (q : Int) 8).length : Int) else (hop : Int)
      rw [List.length_take]
      split <;> omega
  · have hi' : i < (E.take hop).length := hi
    rw [List.length_take] at hi'
    unfold okAt
    rw [hm]
    show (decide (((E.take hop).getD i ez).n = (lst (q : Int) 8).getD i 0) && okE ((E.take hop).getD i ez)) = true
    rw [take_getD (by omega)]
    obtain ⟨e1, e2, _⟩ := h.ent i (by omega)
    rw [e1, e2]
    simp
def wantV (hop n : Nat) : Int := if hop < n then 1 else if hop = 2 * n then 3 else 2
theorem cr_vis {q : Nat} {E : List Ent} (h : RD q E) {hop : Nat} (h1 : 1 ≤ hop) (h2 : hop ≤ 2 * E.length) (node : Int) : visV (CR q E hop) node = if (lst (q : Int) 8).getD (hop % E.length) 0 = node then wantV hop E.length else 0 := by
  unfold visV toV wantV
  rw [cr_ok h h1 h2, if_pos rfl, cr_mem h, ← h.len]
  have he : (CR q E hop).h = (hop : Int) := rfl
  rw [he, Int.toNat_natCast]
  by_cases hn : (lst (q : Int) 8).getD (hop % E.length) 0 = node
  · rw [if_pos hn, if_pos hn]
    by_cases c1 : hop < E.length
    · rw [if_pos (by omega), if_pos c1]
    · rw [if_neg (by omega), if_neg c1]
      by_cases c2 : hop = 2 * E.length
      · rw [if_neg (by omega), if_pos c2]
      · rw [if_pos (by omega), if_neg c2]
  · rw [if_neg hn, if_neg hn]
theorem cr_add {q : Nat} {E : List Ent} (h : RD q E) {hop : Nat} (h1 : 1 ≤ hop) (h2 : hop < E.length) : addOk (CR q E hop) (E.getD hop ez) = true ∧ more (CR q E hop) [E.getD hop ez] = CR q E (hop + 1) := by
  have hm : more (CR q E hop) [E.getD hop ez] = CR q E (hop + 1) := by
    unfold more CR
    simp only [Cm.mk.injEq, true_and]
    refine ⟨by omega, ?_⟩
    rw [List.take_succ_eq_append_getElem h2]
    simp [List.getD_eq_getElem?_getD, h2]
  refine ⟨?_, hm⟩
  unfold addOk
  rw [hm, cr_ok h (by omega) (by omega), cr_vis h h1 (by omega), (h.ent hop h2).1, Nat.mod_eq_of_lt h2, if_pos rfl]
  unfold wantV
  rw [if_pos h2]
  rfl
theorem cr_pass {q : Nat} {E : List Ent} (h : RD q E) {hop : Nat} (h1 : E.length ≤ hop) (h2 : hop < 2 * E.length) : passOk (CR q E hop) = true ∧ more (CR q E hop) [] = CR q E (hop + 1) := by
  have hpos := h.pos
  have hm : more (CR q E hop) [] = CR q E (hop + 1) := by
    unfold more CR
    simp only [Cm.mk.injEq, true_and, List.append_nil]
    refine ⟨by omega, ?_⟩
    rw [List.take_of_length_le (by omega), List.take_of_length_le (by omega)]
  refine ⟨?_, hm⟩
  unfold passOk
  rw [hm, cr_ok h (by omega) (by omega), cr_ok h (by omega) (by omega), cr_mem h, ← h.len]
  have he : (CR q E hop).h = (hop : Int) := rfl
  rw [he, decide_eq_true (by omega)]
  rfl
theorem cr_last {q : Nat} {E : List Ent} (h : RD q E) : passOk (CR q E (2 * E.length)) = false := by
  unfold passOk
  have : okC (more (CR q E (2 * E.length)) []) = false := by
    refine okC_head ?_
    cases hh : okHead (more (CR q E (2 * E.length)) []) with
    | false => rfl
    | true =>
      have h1 := ((okHead_iff _).1 hh).hop1
      have hm : mem (more (CR q E (2 * E.length)) []) = lst (q : Int) 8 := cr_mem h (2 * E.length)
      rw [hm, ← h.len] at h1
      have he : (more (CR q E (2 * E.length)) []).h = ((2 * E.length : Nat) : Int) + 1 := rfl
      rw [he] at h1
      omega
  rw [this, Bool.and_false]
def topS (t : Int) (e : Ent) : Int := if t < e.c then e.c else t
def topV (E : List Ent) : Int := E.foldl topS 0
theorem topV_snoc (E : List Ent) (e : Ent) : topV (E ++ [e]) = topS (topV E) e := by simp [topV]
theorem top_mx {E : List Ent} (h0 : 0 < E.length) (hc : ∀ e ∈ E, 0 ≤ e.c) : topV E = (mxE E).c := by
  have hf : ∀ (r : List Ent) (m : Ent), r.foldl topS m.c = (r.foldl mst m).c := by
    intro r
    induction r with
    | nil => intro m; rfl
    | cons e r ih =>
      intro m
      have : topS m.c e = (mst m e).c := by unfold topS mst; split <;> rfl
      show r.foldl topS (topS m.c e) = (r.foldl mst (mst m e)).c
      rw [this, ih]
  cases E with
  | nil => simp at h0
  | cons a r =>
    have ha := hc a List.mem_cons_self
    show r.foldl topS (topS 0 a) = (r.foldl mst a).c
    have : topS 0 a = a.c := by unfold topS; split <;> omega
    rw [this, hf]
theorem rd_clock {q : Nat} {E : List Ent} (h : RD q E) : ∀ e ∈ E, 0 ≤ e.c ∧ e.c ≤ 9007199254740990 := fun e he => by
  obtain ⟨i, hi, rfl⟩ := List.mem_iff_getElem.1 he
  obtain ⟨_, h2, h3⟩ := h.ent i hi
  simp only [List.getD_eq_getElem?_getD, List.getElem?_eq_getElem hi, Option.getD_some] at h2 h3
  exact ⟨((okE_iff _).1 h2).c0, h3⟩
theorem top_bd {E : List Ent} (hc : ∀ e ∈ E, 0 ≤ e.c ∧ e.c ≤ 9007199254740990) : 0 ≤ topV E ∧ topV E ≤ 9007199254740990 := by
  have : ∀ (r : List Ent) (t : Int), (0 ≤ t ∧ t ≤ 9007199254740990) → (∀ e ∈ r, 0 ≤ e.c ∧ e.c ≤ 9007199254740990) → 0 ≤ r.foldl topS t ∧ r.foldl topS t ≤ 9007199254740990 := by
    intro r
    induction r with
    | nil => intro t h _; exact h
    | cons e r ih =>
      intro t ht hr
      refine ih _ ?_ (fun x hx => hr x (List.mem_cons_of_mem _ hx))
      have := hr e List.mem_cons_self
      unfold topS
      split <;> omega
  exact this E 0 (by omega) hc
theorem cr_stamp {q : Nat} {E : List Ent} (h : RD q E) {hop : Nat} (h1 : E.length ≤ hop) (h2 : hop ≤ 2 * E.length) : stampV (CR q E hop) = topV E + 1 := by
  have hpos := h.pos
  unfold stampV
  rw [cr_ok h (by omega) h2, if_pos rfl]
  have hL : (CR q E hop).L = E := List.take_of_length_le h1
  have hb := top_bd (rd_clock h)
  rw [hL, ← top_mx hpos (fun e he => (rd_clock h e he).1), if_neg (by omega)]
end Go.Proofs.Ytecngibenlcdiaa
