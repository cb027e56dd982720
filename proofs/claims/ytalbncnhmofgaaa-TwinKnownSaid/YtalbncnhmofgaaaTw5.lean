/-
  TWINS (ch 11): THE PROGRAM'S TWIN IN MEMORY; New, none, check, Faulty. Conditions: none.
-/
import Derived.Test.YtalbncnhmofgaaaTw3
import Derived.Test.YtalbncnhmofgaaaMaps
import Derived.Test.YtalbncnhmofgaaaFresh
namespace Go.Proofs.Ytalbncnhmofgaaa
open Go.RowKit

set_option linter.unusedSimpArgs false
/-- A twin's numbers. -/
structure TS where
  node : Int
  life : Int
  act : Bool
  ser : Int
  nx : Nat
  n : Nat
  c0 : Int
  b0 : Bool
  c1 : Int
  b1 : Bool
  c2 : Int
  b2 : Bool
def TS.cs (s : TS) (m : Nat) : Array Value := #[.int .i64 s.node, .int .i64 s.life, .bool s.act, .int .i64 s.ser, .int .i64 s.nx, .int .i64 s.n, .int .i64 s.c0, .bool s.b0, .int .i64 s.c1, .bool s.b1, .int .i64 s.c2, .bool s.b2, .map (some m)]
structure HE where
  h : Nat
  q : Nat
  life : Int
  L : List Int
/-- At block p lies a twin, with senders E in the map at m. -/
structure TW (w : World) (p m : Nat) (s : TS) (E : Int → Option HE) : Prop where
  blk : Blk w p (s.cs m) 72
  map : ∃ M, MapIs w m (Value.int .i64) M ∧ ∀ k, look M k = (E k).map fun e => .pointer (some ⟨e.h, 0, none⟩)
  ent : ∀ k e, E k = some e → Blk w e.h #[.int .i64 e.life, .pointer (some ⟨e.q, 0, none⟩)] 94 ∧ SV w e.q e.L
  sep : ∀ k e k' e', E k = some e → E k' = some e' → k ≠ k' → e.h ≠ e'.h ∧ e.q ≠ e'.q
def tfp (p m : Nat) (E : Int → Option HE) (b : Nat) : Prop := b = p ∨ b = m ∨ ∃ k e, E k = some e ∧ (b = e.h ∨ b = e.q)
theorem TW.keep {S : Nat → Prop} {w w' : World} {p m : Nat} {s : TS} {E : Int → Option HE} (h : TW w p m s E) (f : Fr S w w') (hn : ∀ b, tfp p m E b → ¬ S b) : TW w' p m s E := by
  obtain ⟨M, h1, h2⟩ := h.map
  exact ⟨h.blk.keep f (hn _ (.inl rfl)), ⟨M, h1.keep f (hn _ (.inr (.inl rfl))), h2⟩, fun k e he => ⟨(h.ent k e he).1.keep f (hn _ (.inr (.inr ⟨k, e, he, .inl rfl⟩))), (h.ent k e he).2.keep f (hn _ (.inr (.inr ⟨k, e, he, .inr rfl⟩)))⟩, h.sep⟩
theorem TW.keep0 {w w' : World} {p m : Nat} {s : TS} {E : Int → Option HE} (h : TW w p m s E) (f : Fr (fun _ => False) w w') : TW w' p m s E := h.keep f (fun _ _ h => h)
theorem TW.live {w : World} {p m : Nat} {s : TS} {E : Int → Option HE} (h : TW w p m s E) : ∀ b, tfp p m E b → b < w.heap.size := by
  rintro b (rfl | rfl | ⟨k, e, he, rfl | rfl⟩)
  · exact h.blk.lt
  · obtain ⟨M, h1, _⟩ := h.map; exact h1.lt
  · exact (h.ent k e he).1.lt
  · exact (h.ent k e he).2.lt
theorem TW.pm {w : World} {p m : Nat} {s : TS} {E : Int → Option HE} (h : TW w p m s E) : p ≠ m := fun e => by
  obtain ⟨M, ⟨es, c, h1, _⟩, _⟩ := h.map
  have h2 := h.blk
  unfold Blk at h2
  rw [e, h1] at h2
  simp at h2
theorem SV.no {w : World} {b : Nat} {L : List Int} {cs : Array Value} {t : TypeId} (h : SV w b L) (k : Blk w b cs t) (ht : t ≠ 122) : False := by
  obtain ⟨_, _, h, _⟩ := h
  exact ht (k.type h)
theorem MapIs.no {w : World} {b : Nat} {M : List (Int × Value)} {cs : Array Value} {t : TypeId} (h : MapIs w b (Value.int .i64) M) (k : Blk w b cs t) : False := by
  obtain ⟨es, c, h1, _⟩ := h
  unfold Blk at k
  rw [h1] at k
  simp at k
/-- The numbers turn, the senders stay. -/
theorem TW.num {w w' : World} {p m : Nat} {s s' : TS} {E : Int → Option HE} (h : TW w p m s E) (f : Fr (· = p) w w') (hb : Blk w' p (s'.cs m) 72) : TW w' p m s' E := by
  obtain ⟨M, h1, h2⟩ := h.map
  refine ⟨hb, ⟨M, h1.keep f (fun e => h.pm e.symm), h2⟩, fun k e he => ?_, h.sep⟩
  obtain ⟨g1, g2⟩ := h.ent k e he
  exact ⟨g1.keep f (fun e' => absurd ((e' ▸ g1).type h.blk) (by decide)), g2.keep f (fun e' => (e' ▸ g2).no h.blk (by decide))⟩

theorem none_blk {p : Nat} {n : Nat} (w : World) (h : w.cell? ⟨p, 5, none⟩ = some (.int .i64 (n : Int))) : Calls Try.prog 54 #[.pointer (some ⟨p, 0, none⟩)] w fun e w' => e = .returned (.bool (decide (n = 0))) ∧ w = w' := by
  by_cases h0 : n = 0
  · subst h0
    go_enter Try.func54, Try.ntmps54
    go_wp2_with fail
    go_ret
    exact ⟨rfl, rfl⟩
  · have hd : ((n : Int) == 0) = false := by simp [h0]
    have hd' : decide ((n : Int) = 0) = false := by simp [h0]
    rw [show decide (n = 0) = false by simp [h0]]
    go_enter Try.func54, Try.ntmps54
    go_wp2_with fail
    go_ret
    exact ⟨rfl, rfl⟩
theorem none_nil (w : World) : Calls Try.prog 54 #[.pointer none] w fun e w' => e = .returned (.bool true) ∧ w = w' := by
  go_enter Try.func54, Try.ntmps54
  go_wp2_with fail
  go_ret
  exact ⟨rfl, rfl⟩
def chkR (n : Nat) (l : Int) : Int := if n = 0 then 1 else if l < 0 ∨ (n : Int) ≤ l then 2 else 0
theorem check_blk {p : Nat} {n : Nat} (l : Int) (w : World) (h : w.cell? ⟨p, 5, none⟩ = some (.int .i64 (n : Int))) : Calls Try.prog 56 #[.pointer (some ⟨p, 0, none⟩), .int .i64 l] w fun e w' => e = .returned (.int .i64 (chkR n l)) ∧ w = w' := by
  have HN := hid (none_blk w h)
  have HR : Hid (chkR n l = if n = 0 then 1 else if l < 0 ∨ (n : Int) ≤ l then 2 else 0) := hid rfl
  generalize chkR n l = R at *
  by_cases h0 : n = 0
  · rw [show decide (n = 0) = true by simp [h0]] at HN
    have HR' := hid (HR.out.trans (if_pos h0))
    clear h0 HR
    go_enter Try.func56, Try.ntmps56
    go_wp2_with fail
    with_reducible refine HN.out.mono ?_
    rintro e w1 ⟨rfl, rfl⟩
    go_wp2_with fail
    go_ret
    exact ⟨ret_int HR'.out.symm, rfl⟩
  · rw [show decide (n = 0) = false by simp [h0]] at HN
    have HR' := hid (HR.out.trans (if_neg h0))
    clear h0 HR
    by_cases h1 : l < 0
    · have HR2 := hid (HR'.out.trans (if_pos (.inl h1)))
      have d1 : decide (l < 0) = true := decide_eq_true h1
      clear HR' h1
      go_enter Try.func56, Try.ntmps56
      go_wp2_with fail
      with_reducible refine HN.out.mono ?_
      rintro e w1 ⟨rfl, rfl⟩
      go_wp2_with fail
      go_ret
      exact ⟨ret_int HR2.out.symm, rfl⟩
    · have d1 : decide (l < 0) = false := decide_eq_false h1
      by_cases h2 : (n : Int) ≤ l
      · have HR2 := hid (HR'.out.trans (if_pos (.inr h2)))
        have d2 : decide ((n : Int) ≤ l) = true := decide_eq_true h2
        clear HR' h1 h2
        go_enter Try.func56, Try.ntmps56
        go_wp2_with fail
        with_reducible refine HN.out.mono ?_
        rintro e w1 ⟨rfl, rfl⟩
        go_wp2_with fail
        go_ret
        exact ⟨ret_int HR2.out.symm, rfl⟩
      · have HR2 := hid (HR'.out.trans (if_neg (by simp [h1, h2])))
        have d2 : decide ((n : Int) ≤ l) = false := decide_eq_false h2
        clear HR' h1 h2
        go_enter Try.func56, Try.ntmps56
        go_wp2_with fail
        with_reducible refine HN.out.mono ?_
        rintro e w1 ⟨rfl, rfl⟩
        go_wp2_with fail
        go_ret
        exact ⟨ret_int HR2.out.symm, rfl⟩
theorem check_nil (l : Int) (w : World) : Calls Try.prog 56 #[.pointer none, .int .i64 l] w fun e w' => e = .returned (.int .i64 1) ∧ w = w' := by
  go_enter Try.func56, Try.ntmps56
  go_wp2_with fail
  with_reducible refine (none_nil w).mono ?_
  rintro e w1 ⟨rfl, rfl⟩
  go_wp2_with fail
  go_ret
  exact ⟨rfl, rfl⟩
def TS.new (node life : Int) (n : Nat) (act : Bool) : TS := ⟨node, life, act, 0, 0, n, 0, false, 0, false, 0, false⟩
set_option maxRecDepth 100000 in
theorem tnew_ok (node life : Int) (n : Nat) (act : Bool) (w : World) (h1 : 1 ≤ node) (h2 : node ≤ 8) (h3 : okN life = true) (h4 : 1 ≤ n) (h5 : n ≤ 3) : Calls Try.prog 18 #[.int .i64 node, .int .i64 life, .int .i64 (n : Int), .bool act] w fun e w' => ∃ p m, e = .returned (.tuple #[.pointer (some ⟨p, 0, none⟩), .int .i64 0]) ∧ TW w' p m (TS.new node life n act) (fun _ => none) ∧ w.heap.size ≤ p ∧ w.heap.size ≤ m ∧ Fr (fun _ => False) w w' := by
  have HN := hid (fun W => number_tw life W)
  rw [h3] at HN
  have d1 : decide (node < 1) = false := decide_eq_false (by omega)
  have d2 : decide (8 < node) = false := decide_eq_false (by omega)
  have d3 : decide ((n : Int) < 1) = false := decide_eq_false (by omega)
  have d4 : decide (3 < (n : Int)) = false := decide_eq_false (by omega)
  clear h1 h2 h3 h4 h5
  have hmm := @run_makeMap Try.prog
  go_enter Try.func18, Try.ntmps18
  go_wp2_with fail
  with_reducible refine (HN.out _).mono ?_
  rintro e w1 ⟨rfl, f1⟩
  go_wp2_with fail
  go_ret2
  refine ⟨_, _, rfl, ⟨by have q := Blk.new (w1.alloc (.map #[] 0)) (TS.cs (TS.new node life n act) w1.heap.size) 72; rw [World.size_alloc] at q; exact q, ⟨[], ((MapIs.new w1 (Value.int .i64)).keep ((Fr.refl (fun _ => False) _).alloc _) (fun h => h)), fun k => rfl⟩, fun k e he => by simp at he, fun k e k' e' he => by simp at he⟩, ?_, f1.size, (f1.alloc _).alloc _⟩
  have := f1.size; omega
theorem tnew_bad (node life n : Int) (act : Bool) (w : World) (h : ¬ (1 ≤ node ∧ node ≤ 8 ∧ okN life = true ∧ 1 ≤ n ∧ n ≤ 3)) : Calls Try.prog 18 #[.int .i64 node, .int .i64 life, .int .i64 n, .bool act] w fun e w' => e = .returned (.tuple #[.pointer none, .int .i64 2]) ∧ Fr (fun _ => False) w w' := by
  have HN := hid (fun W => number_tw life W)
  have hcase : (decide (node < 1) = true) ∨ (decide (node < 1) = false ∧ decide (8 < node) = true) ∨ (decide (node < 1) = false ∧ decide (8 < node) = false ∧ okN life = false) ∨ (decide (node < 1) = false ∧ decide (8 < node) = false ∧ okN life = true ∧ decide (n < 1) = true) ∨ (decide (node < 1) = false ∧ decide (8 < node) = false ∧ okN life = true ∧ decide (n < 1) = false ∧ decide (3 < n) = true) := by
    simp only [decide_eq_true_eq, decide_eq_false_iff_not]
    cases hk : okN life <;> simp [hk] at h ⊢ <;> omega
  clear h
  rcases hcase with d1 | ⟨d1, d2⟩ | ⟨d1, d2, d3⟩ | ⟨d1, d2, d3, d4⟩ | ⟨d1, d2, d3, d4, d5⟩
  · clear HN
    go_enter Try.func18, Try.ntmps18
    go_wp2_with fail
    go_ret2
    exact ⟨rfl, Fr.refl _ _⟩
  · clear HN
    go_enter Try.func18, Try.ntmps18
    go_wp2_with fail
    go_ret2
    exact ⟨rfl, Fr.refl _ _⟩
  all_goals
    rw [d3] at HN
    clear d3
    go_enter Try.func18, Try.ntmps18
    go_wp2_with fail
    with_reducible refine (HN.out _).mono ?_
    rintro e w1 ⟨rfl, f1⟩
    go_wp2_with fail
    go_ret2
    exact ⟨rfl, f1⟩
end Go.Proofs.Ytalbncnhmofgaaa
