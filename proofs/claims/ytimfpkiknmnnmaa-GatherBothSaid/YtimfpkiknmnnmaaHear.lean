/-
  WHAT Hear OF A GATHERING DOES. Conditions: as for the other calls.
-/
import Derived.Test.YtimfpkiknmnnmaaOwn
import Derived.Test.YtimfpkiknmnnmaaAgreed
namespace Go.Proofs.Ytimfpkiknmnnmaa
open Go.RowKit

def putJ : List J3 → J3 → List J3
  | [], j => [j]
  | x :: r, j => if x.1 = j.1 then j :: r else x :: putJ r j
def getJ (L : List J3) (s : Int) : Option J3 := L.find? fun x => decide (x.1 = s)
theorem mv_put (L : List J3) (j : J3) : mv (putJ L j) = put (mv L) j.1 (jv j) := by
  induction L with
  | nil => rfl
  | cons x r ih =>
    simp only [putJ, mv, List.map_cons, put]
    by_cases hx : x.1 = j.1
    · simp [hx]
    · simp only [hx, if_false, List.map_cons]; congr 1
theorem mv_look (L : List J3) (s : Int) : look (mv L) s = (getJ L s).map jv := by
  induction L with
  | nil => rfl
  | cons x r ih =>
    simp only [mv, List.map_cons, look, getJ, List.find?_cons]
    by_cases hx : x.1 = s
    · simp [hx]
    · simp only [hx, if_false, decide_false]; exact ih
theorem put_mem {L : List J3} {j x : J3} (h : x ∈ putJ L j) : x = j ∨ x ∈ L := by
  induction L with
  | nil => simp [putJ] at h; exact .inl h
  | cons y r ih =>
    unfold putJ at h
    split at h
    · rcases List.mem_cons.1 h with h | h
      · exact .inl h
      · exact .inr (List.mem_cons_of_mem _ h)
    · rcases List.mem_cons.1 h with h | h
      · subst h; exact .inr List.mem_cons_self
      · rcases ih h with h | h
        · exact .inl h
        · exact .inr (List.mem_cons_of_mem _ h)
theorem get_mem {L : List J3} {s : Int} {x : J3} (h : getJ L s = some x) : x ∈ L ∧ x.1 = s := ⟨List.mem_of_find?_eq_some h, by have := List.find?_some h; simpa using this⟩

theorem run_neq_join (W : World) (a b c x y z : Int) : (binOp .neq 34 (.agg #[.int .i64 a, .int .i64 b, .int .i64 c]) (.agg #[.int .i64 x, .int .i64 y, .int .i64 z])).run Try.prog W = .ok (.bool (!decide ((a, b, c) = (x, y, z)))) W := by
  by_cases h1 : a = x <;> by_cases h2 : b = y <;> by_cases h3 : c = z <;> simp [go_sem, h1, h2, h3]
theorem run_eql_join (W : World) (a b c x y z : Int) : (binOp .eql 34 (.agg #[.int .i64 a, .int .i64 b, .int .i64 c]) (.agg #[.int .i64 x, .int .i64 y, .int .i64 z])).run Try.prog W = .ok (.bool (decide ((a, b, c) = (x, y, z)))) W := by
  by_cases h1 : a = x <;> by_cases h2 : b = y <;> by_cases h3 : c = z <;> simp [go_sem, h1, h2, h3]

def okJ (j : J3) : Bool := !chkV j.2.1 && hasV j.2.1 j.1 && numV j.2.2
def HearIs (g b : Nat) (N C : Int) (w : World) (ch gr : Bool) (er T' : Int) (L' : List J3) (e : Ending) (w' : World) : Prop :=
  e = .returned (.tuple #[.bool ch, .bool gr, .int .i64 er]) ∧ GS w' g b N C T' L' ∧ Fr (fun k => k = g ∨ k = b) w w'

set_option maxRecDepth 100000 in
set_option maxHeartbeats 1000000 in
theorem hear_bad {g b : Nat} {N C T : Int} {L : List J3} (s p c : Int) (w : World) (h : GS w g b N C T L) (hj : okJ (s, p, c) = false) :
    Calls Try.prog 11 #[.pointer (some ⟨g, 0, none⟩), .agg #[.int .i64 s, .int .i64 p, .int .i64 c]] w (HearIs g b N C w false false 2 T L) := by
  have f1 : Fr (fun k => k = g ∨ k = b) w (w.alloc (.cells #[.int .i64 s, .int .i64 p, .int .i64 c] 34)) := (Fr.refl _ w).alloc _
  have h1 := h.keep0 ((Fr.refl (fun _ => False) w).alloc (.cells #[.int .i64 s, .int .i64 p, .int .i64 c] 34))
  have hz := Blk.new w #[.int .i64 s, .int .i64 p, .int .i64 c] 34
  go_enter Try.func11, Try.ntmps11
  go_wp2_with fail
  generalize w.alloc (.cells #[.int .i64 s, .int .i64 p, .int .i64 c] 34) = w1 at *
  generalize w.heap.size = z at *
  have HH := h1.hid
  refine (none_any w1 HH.out).mono ?_
  rintro e w1' ⟨rfl, rfl⟩
  have z0 := hz.cell 0 rfl
  have z1 := hz.cell 1 rfl
  have z2 := hz.cell 2 rfl
  have HF := hid f1
  clear h1 f1 h hz
  simp only [okJ] at hj
  go_wp2_with fail
  refine (check_any p w1).mono ?_
  rintro e w1' ⟨rfl, rfl⟩
  cases hc : chkV p with
  | true =>
    clear hj
    simp only [if_true]
    go_wp2_with fail
    refine bodyPost_ret (v := .tuple #[.bool false, .bool false, .int .i64 2]) (by simp [results, Try.results11, go_sem]) rfl ⟨rfl, HH.out, HF.out⟩
  | false =>
    rw [hc] at hj
    simp only [Bool.false_eq_true, if_false]
    go_wp2_with fail
    refine (has_any p s w1).mono ?_
    rintro e w1' ⟨rfl, rfl⟩
    cases hh : hasV p s with
    | false =>
      clear hj
      go_wp2_with fail
      refine bodyPost_ret (v := .tuple #[.bool false, .bool false, .int .i64 2]) (by simp [results, Try.results11, go_sem]) rfl ⟨rfl, HH.out, HF.out⟩
    | true =>
      rw [hh] at hj
      have hn : numV c = false := by simpa using hj
      clear hj
      go_wp2_with fail
      refine (number_any c w1).mono ?_
      rintro e w1' ⟨rfl, rfl⟩
      rw [hn]
      go_wp2_with fail
      refine bodyPost_ret (v := .tuple #[.bool false, .bool false, .int .i64 2]) (by simp [results, Try.results11, go_sem]) rfl ⟨rfl, HH.out, HF.out⟩

theorem okJ_of {s p c : Int} (h : okJ (s, p, c) = true) : chkV p = false ∧ hasV p s = true ∧ numV c = true ∧ 1 ≤ s ∧ s ≤ 8 ∧ 0 ≤ c ∧ c ≤ 9007199254740991 := by
  simp only [okJ, Bool.and_eq_true, Bool.not_eq_true'] at h
  obtain ⟨⟨h1, h2⟩, h3⟩ := h
  refine ⟨h1, h2, h3, ?_⟩
  simp only [hasV, numV, Bool.and_eq_true, decide_eq_true_eq] at h2 h3
  omega

set_option maxRecDepth 100000 in
set_option maxHeartbeats 1000000 in
theorem hear_self {g b : Nat} {N C T : Int} {L : List J3} (p c : Int) (w : World) (h : GS w g b N C T L) (hj : okJ (N, p, c) = true) :
    Calls Try.prog 11 #[.pointer (some ⟨g, 0, none⟩), .agg #[.int .i64 N, .int .i64 p, .int .i64 c]] w (HearIs g b N C w false false 0 T L) := by
  obtain ⟨k1, k2, k3, _⟩ := okJ_of hj
  have f1 : Fr (fun k => k = g ∨ k = b) w (w.alloc (.cells #[.int .i64 N, .int .i64 p, .int .i64 c] 34)) := (Fr.refl _ w).alloc _
  have h1 := h.keep0 ((Fr.refl (fun _ => False) w).alloc (.cells #[.int .i64 N, .int .i64 p, .int .i64 c] 34))
  have hz := Blk.new w #[.int .i64 N, .int .i64 p, .int .i64 c] 34
  go_enter Try.func11, Try.ntmps11
  go_wp2_with fail
  generalize w.alloc (.cells #[.int .i64 N, .int .i64 p, .int .i64 c] 34) = w1 at *
  generalize w.heap.size = z at *
  have HH := h1.hid
  refine (none_any w1 HH.out).mono ?_
  rintro e w1' ⟨rfl, rfl⟩
  have z0 := hz.cell 0 rfl
  have z1 := hz.cell 1 rfl
  have z2 := hz.cell 2 rfl
  have g0 := HH.out.blk.cell 0 rfl
  have HF := hid f1
  clear h1 f1 h hz hj
  go_wp2_with fail
  refine (check_any p w1).mono ?_
  rintro e w1' ⟨rfl, rfl⟩
  rw [k1]
  simp only [Bool.false_eq_true, if_false]
  go_wp2_with fail
  refine (has_any p N w1).mono ?_
  rintro e w1' ⟨rfl, rfl⟩
  rw [k2]
  go_wp2_with fail
  refine (number_any c w1).mono ?_
  rintro e w1' ⟨rfl, rfl⟩
  rw [k3]
  go_wp2_with fail
  go_region
  all_goals
    go_wp2_with fail
    refine bodyPost_ret (v := .tuple #[.bool false, .bool false, .int .i64 0]) (by simp [results, Try.results11, go_sem]) rfl ⟨rfl, ?_, ?_⟩
    · first | exact HH.out | exact HH.out.keep0 ((Fr.refl _ _).drew) | exact HH.out.keep0 (((Fr.refl _ _).drew).drew)
    · first | exact HF.out | exact HF.out.drew | exact HF.out.drew.drew

theorem look_at {w : World} {b : Nat} {L : List J3} (h : MapIs w b (Value.int .i64) (mv L)) (s : Int) (W : World) (hW : W.heap[b]? = w.heap[b]?) :
    (Instr.lookup 52 (.map (some b)) (.int .i64 s) true).run Try.prog W = .ok (.tuple #[((getJ L s).map jv).getD (.agg #[.int .i64 0, .int .i64 0, .int .i64 0]), .bool (getJ L s).isSome]) W := by
  have h2 : MapIs W b (Value.int .i64) (mv L) := by
    obtain ⟨es, c, q1, q2⟩ := h
    exact ⟨es, c, by rw [hW]; exact q1, q2⟩
  have hz : (zeroValue 34).run Try.prog W = .ok (.agg #[.int .i64 0, .int .i64 0, .int .i64 0]) W := by simp [go_sem]
  have := run_lookup_map (int_keyOk (P := Try.prog) Try.underlying3) Try.underlying52 hz h2 s true
  simpa [mv_look] using this
theorem upd_at {w : World} {b : Nat} {L : List J3} (h : MapIs w b (Value.int .i64) (mv L)) (j : J3) : ∃ U : World → World, ∀ W : World, W.heap[b]? = w.heap[b]? → (Instr.mapUpdate 52 (.map (some b)) (.int .i64 j.1) (jv j)).run Try.prog W = .ok () (U W) ∧ MapIs (U W) b (Value.int .i64) (mv (putJ L j)) ∧ Fr (· = b) W (U W) := by
  have key : ∀ W : World, ∃ w', W.heap[b]? = w.heap[b]? → (Instr.mapUpdate 52 (.map (some b)) (.int .i64 j.1) (jv j)).run Try.prog W = .ok () w' ∧ MapIs w' b (Value.int .i64) (mv (putJ L j)) ∧ Fr (· = b) W w' := fun W => by
    by_cases hW : W.heap[b]? = w.heap[b]?
    · have h2 : MapIs W b (Value.int .i64) (mv L) := by
        obtain ⟨es, c, q1, q2⟩ := h
        exact ⟨es, c, by rw [hW]; exact q1, q2⟩
      obtain ⟨w', q⟩ := run_mapUpdate_map (int_keyOk (P := Try.prog) Try.underlying3) Try.underlying52 h2 j.1 (jv j)
      rw [← mv_put] at q
      exact ⟨w', fun _ => q⟩
    · exact ⟨W, fun h => absurd h hW⟩
  exact ⟨fun W => Classical.choose (key W), fun W => Classical.choose_spec (key W)⟩
theorem alloc_at {w : World} {b : Nat} (h : b < w.heap.size) (o : Obj) : (w.alloc o).heap[b]? = w.heap[b]? := heap_alloc_old w o h

set_option maxRecDepth 100000 in
set_option maxHeartbeats 2000000 in
theorem hear_good {g b : Nat} {N C T : Int} {L : List J3} (s p c : Int) (w : World) (h : GS w g b N C T L) (hj : okJ (s, p, c) = true) (hsN : s ≠ N) :
    Calls Try.prog 11 #[.pointer (some ⟨g, 0, none⟩), .agg #[.int .i64 s, .int .i64 p, .int .i64 c]] w (HearIs g b N C w (!decide (getJ L s = some (s, p, c))) (getJ L s).isNone 0 (max T c) (putJ L (s, p, c))) := by
  obtain ⟨k1, k2, k3, k4, k5, k6, k7⟩ := okJ_of hj
  have f1 : Fr (fun k => k = g ∨ k = b) w (w.alloc (.cells #[.int .i64 s, .int .i64 p, .int .i64 c] 34)) := (Fr.refl _ w).alloc _
  have h1 := h.keep0 ((Fr.refl (fun _ => False) w).alloc (.cells #[.int .i64 s, .int .i64 p, .int .i64 c] 34))
  have hz := Blk.new w #[.int .i64 s, .int .i64 p, .int .i64 c] 34
  have hgz : g < w.heap.size := h.blk.lt
  have hbz : b < w.heap.size := h.map.lt
  go_enter Try.func11, Try.ntmps11
  go_wp2_with fail
  generalize w.alloc (.cells #[.int .i64 s, .int .i64 p, .int .i64 c] 34) = w1 at *
  generalize w.heap.size = z at *
  have HH := h1.hid
  refine (none_any w1 HH.out).mono ?_
  rintro e w1' ⟨rfl, rfl⟩
  have z0 := hz.cell 0 rfl
  have z1 := hz.cell 1 rfl
  have z2 := hz.cell 2 rfl
  have g0 := HH.out.blk.cell 0 rfl
  have g3 := HH.out.blk.cell 3 rfl
  have HF := hid f1
  have HGZ := hid hgz
  have HBZ := hid hbz
  have HZ := hid hz
  clear h1 f1 h hz hj hgz hbz
  go_wp2_with fail
  refine (check_any p w1).mono ?_
  rintro e w1' ⟨rfl, rfl⟩
  rw [k1]
  simp only [Bool.false_eq_true, if_false]
  go_wp2_with fail
  refine (has_any p s w1).mono ?_
  rintro e w1' ⟨rfl, rfl⟩
  rw [k2]
  go_wp2_with fail
  refine (number_any c w1).mono ?_
  rintro e w1' ⟨rfl, rfl⟩
  rw [k3]
  have hne : (s == N) = false := by simpa using hsN
  go_wp2_with fail
  go_region
  all_goals
    go_wp2_with fail
    have H2 := (HH.out.keep0 ((Fr.refl _ w1).drew)).hid
    have HZ2 := hid (HZ.out.drew)
    have HF2 := hid HF.out.drew
    clear z0 z1 z2 g0 g3
    generalize w1.drew = w2 at *
    have z0 := HZ2.out.cell 0 rfl
    have z1 := HZ2.out.cell 1 rfl
    have z2 := HZ2.out.cell 2 rfl
    have g3 := H2.out.blk.cell 3 rfl
    have hlk := fun W hW => look_at H2.out.map s W hW
    have hbs : b < w2.heap.size := H2.out.map.lt
    have hal := fun o => alloc_at hbs o
    have hal2 : ∀ o, (w2.drew.alloc o).heap[b]? = w2.heap[b]? := fun o => alloc_at (w := w2.drew) hbs o
    have hdr : ∀ W : World, W.drew.heap[b]? = W.heap[b]? := fun _ => rfl
    have a0 : ∀ o, (w2.alloc o).cell? ⟨z, 0, none⟩ = some (.int .i64 s) := fun o => cell_fr ((Fr.refl _ w2).alloc o) z0
    have a3 : ∀ o, (w2.alloc o).cell? ⟨g, 3, none⟩ = some (.map (some b)) := fun o => cell_fr ((Fr.refl _ w2).alloc o) g3
    have HQ : Hid (getJ L s = getJ L s) := hid rfl
    obtain ⟨x, y, v, kn, hw1, hw2, hw3⟩ : ∃ x y v : Int, ∃ kn : Bool, ((getJ L s).map jv).getD (.agg #[.int .i64 0, .int .i64 0, .int .i64 0]) = .agg #[.int .i64 x, .int .i64 y, .int .i64 v] ∧ (getJ L s).isSome = kn ∧ (kn = true → getJ L s = some (x, y, v)) := by
      cases hget : getJ L s with
      | none => exact ⟨0, 0, 0, false, rfl, rfl, fun h => by cases h⟩
      | some q => exact ⟨q.1, q.2.1, q.2.2, true, rfl, rfl, fun _ => rfl⟩
    rw [hw1, hw2] at hlk
    have HW2 := hid hw2
    have HW3 := hid hw3
    clear hw1 hw2 hw3 HQ
    go_region
    clear hlk hal hal2 a0 a3
    have hHD := Blk.drew (Blk.new w2 #[.int .i64 x, .int .i64 y, .int .i64 v] 34)
    have h23 : Fr (fun _ => False) w2 (w2.alloc (.cells #[.int .i64 x, .int .i64 y, .int .i64 v] 34)).drew := ((Fr.refl _ w2).alloc _).drew
    generalize (w2.alloc (.cells #[.int .i64 x, .int .i64 y, .int .i64 v] 34)).drew = w3 at *
    have HDB : Hid (b < w2.heap.size ∧ g < w2.heap.size ∧ z < w2.heap.size) := hid ⟨hbs, H2.out.blk.lt, HZ2.out.lt⟩
    generalize w2.heap.size = d at *
    have H3 := (H2.out.keep0 h23).hid
    have HZ3 := hid (HZ2.out.keep h23 (fun h => h))
    have HD3 := hid hHD
    have HF3 := hid (HF2.out.trans (h23.mono (fun _ _ h => h.elim)))
    clear hHD h23 hbs z0 z1 z2 g3
    have z0 := HZ3.out.cell 0 rfl
    have z1 := HZ3.out.cell 1 rfl
    have z2 := HZ3.out.cell 2 rfl
    have g3 := H3.out.blk.cell 3 rfl
    obtain ⟨U, hU⟩ := upd_at H3.out.map (s, p, c)
    have hup := fun W hW => (hU W hW).1
    simp only [jv] at hup
    have HU := hid fun W hW => (hU W hW).2
    have hdr : ∀ W : World, W.drew.heap[b]? = W.heap[b]? := fun _ => rfl
    clear hU
    go_wp2_with fail
    go_region
    obtain ⟨hM4, f4⟩ := HU.out w3.drew (hdr w3)
    have hgb := H3.out.ne
    obtain ⟨db1, db2, db3⟩ := HDB.out
    have B4 := H3.out.blk.drew.keep f4 hgb
    have HB4 := hid B4
    have HM4 := hid hM4
    have HZ4 := hid (HZ3.out.drew.keep f4 (by have := HBZ.out; omega))
    have HD4 := hid (HD3.out.drew.keep f4 (by omega))
    have HF4 := hid ((HF3.out.drew).trans (f4.mono (fun k _ h => .inr h)))
    have HT0 := hid H3.out.t0
    have HT1 := hid H3.out.t1
    have HKE := hid H3.out.keys
    have HC0 := hid H3.out.c0
    have HC1 := hid H3.out.c1
    have HN0 := hid H3.out.n0
    have HN1 := hid H3.out.n1
    have HGB := hid hgb
    clear hM4 f4 hup HU hdr g3 z0 z1 z2 B4 db1 db2 db3 hgb
    generalize U w3.drew = w4 at *
    have z0 := HZ4.out.cell 0 rfl
    have z1 := HZ4.out.cell 1 rfl
    have z2 := HZ4.out.cell 2 rfl
    have g2 := HB4.out.cell 2 rfl
    have gf := HB4.out.free 2
    go_wp2_with fail
    go_region
    have hmx : (if T < c then c else T) = max T c := by rw [Int.max_def]; split <;> split <;> omega
    have f5 : Fr (· = g) w4 (w4.setCell ⟨g, 2, none⟩ (.int .i64 (if T < c then c else T))).drew := ((Fr.refl _ w4).set1 2 _).drew
    have B5 : Blk (w4.setCell ⟨g, 2, none⟩ (.int .i64 (if T < c then c else T))).drew g #[.int .i64 N, .int .i64 C, .int .i64 (max T c), .map (some b)] 54 := by
      rw [hmx]; exact (HB4.out.set' 2 (.int .i64 (max T c)) rfl).drew
    have h0 := HT0.out
    have h1 := HT1.out
    have hmx0 : 0 ≤ max T c := by rw [Int.max_def]; split <;> omega
    have hmx1 : max T c ≤ 9007199254740991 := by rw [Int.max_def]; split <;> omega
    have HG5 : Hid (GS (w4.setCell ⟨g, 2, none⟩ (.int .i64 (if T < c then c else T))).drew g b N C (max T c) (putJ L (s, p, c))) := hid ⟨B5, HM4.out.keep f5 (fun e => HGB.out e.symm), HGB.out, HN0.out, HN1.out, HC0.out, HC1.out, hmx0, hmx1, fun j hj => by
      rcases put_mem hj with h | h
      · subst h; exact ⟨k4, k5⟩
      · exact HKE.out j h⟩
    have HF5 := hid (HF4.out.trans (f5.mono (fun k _ h => .inl h)))
    obtain ⟨db1, db2, db3⟩ := HDB.out
    have HZ5 := HZ4.out.keep f5 (by have := HGZ.out; omega)
    have HD5 := HD4.out.keep f5 (by omega)
    clear f5 B5 h0 h1 hmx hmx0 hmx1 db1 db2 db3 z0 z1 z2 g2 gf
    generalize (w4.setCell ⟨g, 2, none⟩ (.int .i64 (if T < c then c else T))).drew = w5 at *
    have z0 := HZ5.cell 0 rfl
    have z1 := HZ5.cell 1 rfl
    have z2 := HZ5.cell 2 rfl
    have d0 := HD5.cell 0 rfl
    have d1 := HD5.cell 1 rfl
    have d2 := HD5.cell 2 rfl
    clear HZ5 HD5
    have hnq := fun W => run_neq_join W x y v s p c
    cases kn with
    | false =>
      have hq : getJ L s = none := by have := HW2.out; cases hg : getJ L s with
        | none => rfl
        | some q => rw [hg] at this; cases this
      have HQ := hid hq
      clear hq
      go_wp2_with fail
      all_goals
       refine bodyPost_ret (v := .tuple #[.bool true, .bool true, .int .i64 0]) (by simp [results, Try.results11, go_sem]) rfl ⟨?_, HG5.out, HF5.out⟩
       rw [HQ.out]; rfl
    | true =>
      have hq : getJ L s = some (x, y, v) := HW3.out rfl
      have HQ := hid hq
      clear hq
      go_wp2_with fail
      all_goals
       refine bodyPost_ret (v := .tuple #[.bool (!decide ((x, y, v) = (s, p, c))), .bool false, .int .i64 0]) (by simp [results, Try.results11, go_sem]) rfl ⟨?_, HG5.out, HF5.out⟩
       rw [HQ.out]; simp
end Go.Proofs.Ytimfpkiknmnnmaa
