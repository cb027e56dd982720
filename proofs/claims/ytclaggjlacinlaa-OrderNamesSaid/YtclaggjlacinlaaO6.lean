/-
  BOTH WINDOWS AND BOTH ORDERS: one contract a call, whatever the number; the list of deeds in memory. Conditions: the statements' own data.
-/
import Derived.Test.YtclaggjlacinlaaO5
namespace Go.Proofs.Ytclaggjlacinlaa
open Go.RowKit
set_option linter.unusedSimpArgs false

/-- What a window holds behind Put. -/
def upd (M : List (Int × (Int × Bool))) (n kd : Int) (s : Bool) : List (Int × (Int × Bool)) :=
  if n < 1 then M else match wl M n with
    | some _ => M
    | none => M ++ [(n, (kd, s))]
theorem upd_len (M : List (Int × (Int × Bool))) (n kd : Int) (s : Bool) : (upd M n kd s).length ≤ M.length + 1 := by
  unfold upd
  split
  · omega
  · split <;> simp
theorem put_c {w0 w : World} {g b : Nat} {M : List (Int × (Int × Bool))} (n kd : Int) (s : Bool) (h : WS w0 w g b M) (h2 : n ≤ 1000) :
    Calls Try.prog 11 #[.pointer (some ⟨g, 0, none⟩), .agg #[.int .i64 1, .int .i64 1, .int .i64 n, .int .i64 1, .int .i64 0, .int .i64 kd, .int .i64 1, .int .i64 1, .int .i64 0, .int .i64 0, .int .i64 1, .int .i64 1, .bool s, .int .i64 0, .int .i64 0, .int .i64 0, .int .i64 0, .slice none 0 0]] w fun e w' => (∃ r, e = .returned r) ∧ WS w0 w' g b (upd M n kd s) ∧ Fr (fun k => k = g ∨ k = b) w w' := by
  by_cases h1 : n < 1
  · refine (put_bad n kd s h h1).mono fun e w' q => ⟨⟨_, q.1⟩, ?_, q.2.2.mono (fun _ _ h => h.elim)⟩
    unfold upd
    rw [if_pos h1]
    exact q.2.1
  · cases hl : wl M n with
    | none =>
      refine (put_new n kd s h hl (by omega) h2).mono fun e w' q => ⟨⟨_, q.1⟩, ?_, q.2.2⟩
      unfold upd
      rw [if_neg h1, hl]
      exact q.2.1
    | some x =>
      refine (put_old n kd x.1 s x.2 h hl).mono fun e w' q => ⟨⟨_, q.1⟩, ?_, q.2.2.mono (fun _ _ h => h.elim)⟩
      unfold upd
      rw [if_neg h1, hl]
      exact q.2.1
theorem rput_c {B : Nat} {w : World} {v : Nat} {M : List (Int × (Int × Bool))} (n kd : Int) (s : Bool) (h : RW B w v M) (h2 : n ≤ 1000) (hlen : M.length ≤ 10000) :
    Calls Try.prog 23 #[.pointer (some ⟨v, 0, none⟩), .agg #[.int .i64 1, .int .i64 1, .int .i64 n, .int .i64 1, .int .i64 0, .int .i64 kd, .int .i64 1, .int .i64 1, .int .i64 0, .int .i64 0, .int .i64 1, .int .i64 1, .bool s, .int .i64 0, .int .i64 0, .int .i64 0, .int .i64 0, .slice none 0 0]] w fun e w' => (∃ r, e = .returned r) ∧ RW B w' v (upd M n kd s) ∧ Fr (fun k => B ≤ k) w w' := by
  by_cases h1 : n < 1
  · refine (rput_bad n kd s h1).mono fun e w' q => ⟨⟨_, q.1⟩, ?_, q.2.mono (fun _ _ h => h.elim)⟩
    unfold upd
    rw [if_pos h1]
    exact h.keep q.2
  · cases hl : wl M n with
    | none =>
      refine (rput_new n kd s h hl (by omega) h2 hlen).mono fun e w' q => ⟨⟨_, q.1⟩, ?_, q.2.2⟩
      unfold upd
      rw [if_neg h1, hl]
      exact q.2.1
    | some x =>
      refine (rput_old n kd x.1 s x.2 h hl hlen).mono fun e w' q => ⟨⟨_, q.1⟩, ?_, q.2.mono (fun _ _ h => h.elim)⟩
      unfold upd
      rw [if_neg h1, hl]
      exact h.keep q.2
theorem nx_bound (M : List (Int × (Int × Bool))) (safe : Int) (hk : ∀ x ∈ M, 1 ≤ x.1 ∧ x.1 ≤ 1000) : ∀ (f : Nat) (d : Int), 0 ≤ d → d ≤ 1000 → 0 ≤ (nx M safe f d).2 ∧ (nx M safe f d).2 ≤ 1000 ∧ (nx M safe f d).1.length ≤ f := by
  intro f
  induction f with
  | zero => intro d h0 h1; exact ⟨h0, h1, Nat.le_refl _⟩
  | succ f ih =>
    intro d h0 h1
    unfold nx
    cases hq : wl M (d + 1) with
    | none => exact ⟨h0, h1, Nat.zero_le _⟩
    | some q =>
      have hb := hk _ (wl_mem hq)
      simp only at hb
      simp only
      by_cases hs : q.2 = true ∧ safe < d + 1
      · rw [if_pos hs]; exact ⟨h0, h1, Nat.zero_le _⟩
      · rw [if_neg hs]
        obtain ⟨a, b, c⟩ := ih (d + 1) (by omega) (by omega)
        refine ⟨a, b, ?_⟩
        simp only
        split
        · omega
        · simp only [List.length_cons]; omega
theorem nxt_bound {M : List (Int × (Int × Bool))} {safe d : Int} (hk : ∀ x ∈ M, 1 ≤ x.1 ∧ x.1 ≤ 1000) (h0 : 0 ≤ d) (h1 : d ≤ 1000) : 0 ≤ (nxt M safe d).2 ∧ (nxt M safe d).2 ≤ 1000 ∧ (nxt M safe d).1.length ≤ 1001 := by
  obtain ⟨a, b, c⟩ := nx_bound M safe hk (1001 - d).toNat d h0 h1
  exact ⟨a, b, by unfold nxt; omega⟩

/-- A list of deeds, as it lies in memory. -/
def doc (x : (Int × (Int × Bool)) × Int) : List Value := datc x.1 ++ [.int .i64 x.2]
def flatO (l : List ((Int × (Int × Bool)) × Int)) : List Value := l.flatMap doc
theorem flatO_seg : ∀ {l : List ((Int × (Int × Bool)) × Int)} {j : Nat} {x : (Int × (Int × Bool)) × Int}, l[j]? = some x → ((flatO l).drop (j * 19)).take 19 = doc x
  | [], _, _, h => by simp at h
  | y :: r, 0, x, h => by
    have : y = x := by simpa using h
    subst this
    rw [Nat.zero_mul, List.drop_zero]
    show (doc y ++ flatO r).take 19 = doc y
    exact List.take_left' rfl
  | y :: r, j + 1, x, h => by
    rw [show (j + 1) * 19 = 19 + j * 19 by omega, ← List.drop_drop]
    show ((((doc y ++ flatO r).drop 19)).drop (j * 19)).take 19 = doc x
    rw [show (doc y ++ flatO r).drop 19 = flatO r from List.drop_left' rfl]
    exact flatO_seg (by simpa using h)
structure LD (w : World) (u : Value) (L : List ((Int × (Int × Bool)) × Int)) : Prop where
  ex : (u = .slice none 0 0 ∧ L = []) ∨ ∃ lb cap cs, u = .slice (some ⟨lb, 0, none⟩) L.length cap ∧ Blk w lb cs 55 ∧ cs.toList = flatO L ∧ L.length ≤ cap ∧ cap ≤ 100000
  nums : ∀ x ∈ L, x.1.1 ≤ 1000
theorem LD.keep {S : Nat → Prop} {w w' : World} {u : Value} {L : List ((Int × (Int × Bool)) × Int)} (h : LD w u L) (f : Fr S w w') (hS : ∀ k, k < w.heap.size → ¬ S k) : LD w' u L := by
  refine ⟨?_, h.nums⟩
  rcases h.ex with h | ⟨lb, cap, cs, e, b, r⟩
  · exact .inl h
  · exact .inr ⟨lb, cap, cs, e, b.keep f (hS _ b.lt), r⟩
theorem ld_at {cs : Array Value} {L : List ((Int × (Int × Bool)) × Int)} (h : cs.toList = flatO L) {j : Nat} {n kd safe : Int} {s : Bool} (hx : L[j]? = some ((n, (kd, s)), safe)) :
    (cs.toList.drop (j * 19)).take 18 = (#[.int .i64 1, .int .i64 1, .int .i64 n, .int .i64 1, .int .i64 0, .int .i64 kd, .int .i64 1, .int .i64 1, .int .i64 0, .int .i64 0, .int .i64 1, .int .i64 1, .bool s, .int .i64 0, .int .i64 0, .int .i64 0, .int .i64 0, .slice none 0 0] : Array Value).toList ∧ cs[j * 19 + 2]? = some (.int .i64 n) ∧ cs[j * 19 + 18]? = some (.int .i64 safe) := by
  have h1 := flatO_seg hx
  have h2 : (cs.toList.drop (j * 19)).take 19 = doc ((n, (kd, s)), safe) := by rw [h]; exact h1
  have h3 : ∀ i v, (doc ((n, (kd, s)), safe))[i]? = some v → i < 19 → cs[j * 19 + i]? = some v := fun i v hv hi => by
    rw [← h2, List.getElem?_take, if_pos hi, List.getElem?_drop] at hv
    simpa using hv
  refine ⟨?_, h3 2 _ rfl (by decide), h3 18 _ rfl (by decide)⟩
  have : ((cs.toList.drop (j * 19)).take 19).take 18 = (doc ((n, (kd, s)), safe)).take 18 := by rw [h2]
  rw [List.take_take, show min 18 19 = 18 from rfl] at this
  rw [this]
  rfl
theorem flatD_at17 {l : List (Int × (Int × Bool))} {j : Nat} {x : Int × (Int × Bool)} (h : l[j]? = some x) : (flatD l)[j * 18 + 17]? = some (.slice none 0 0) := by
  have h2 := flatD_seg h
  have hv : (datc x)[17]? = some (.slice none 0 0) := rfl
  rw [← h2, List.getElem?_take, if_pos (by decide), List.getElem?_drop] at hv
  exact hv
end Go.Proofs.Ytclaggjlacinlaa
