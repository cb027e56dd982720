/-
  WHAT copied OF COMMITS ANSWERS: the same, in memory of its own. Conditions: at most 2^47 bytes of entries.
-/
import Derived.Test.YtecngibenlcdiaaCs1
namespace Go.Proofs.Ytecngibenlcdiaa
open Go.RowKit Go.ChangeShapes Go.WideShapes Go.Deep

set_option linter.unusedSimpArgs false

/-- 'append' of any slice of entries onto a row of one's own, as many as there may be. -/
theorem wpList_append_big {w : World} {ops : Array Oper} {rest : List Oper} {o : Oper} {a : Act} {Q : Exit → Act → World → Prop} (hgd : o.guard = none) (s x : Operand)
    (hop : o.op = Op.call { callee := Callee.builtin Builtin.append, args := #[s, x], argTypes := #[24, 24] })
    (v : Value) (K L : List Ent) (hs : a.eval s = v) (hown : w.ownsRow 0 28 6 v K.length (ents K)) (u : Value) (hx : a.eval x = u) (hv : IsEs w u L) (b1 : (K.length + L.length) * 48 ≤ 140737488355328)
    (hK : ∀ v' w', w'.ownsRow 0 28 6 v' (K ++ L).length (ents (K ++ L)) → Fr (· ∈ footOf v) w w' → Grows w (footOf v) (footOf v') → wpList Try.prog ops Q rest (a.put o.dst v') w') :
    wpList Try.prog ops Q (o :: rest) a w := by
  obtain ⟨i, hi, i1, i2, i3⟩ := entI
  rcases hv.src with ⟨rfl, rfl⟩ | ⟨ad, c, rfl, hc⟩
  · refine wpList_plain hgd fun K' hK' => ?_
    have hrun := run_append_owned_none (P := Try.prog) (w := w) 0 24 o.type 28 i 6 Try.underlying24 hi v K.length (ents K) hown
    unfold Oper.wp
    simp [execOp, hop, resolve, invoke, builtin, hs, hx, hrun, Result.andThen]
    exact hK' _ _ (hK v w (by simpa using hown) (Fr.refl _ _) (Grows.refl _ _))
  · exact wpList_append_row hgd s x 24 hop 28 i _ 6 48 Try.underlying24 hi i1 i2 i3 rfl (by omega) v K.length (ents K) hs hown ad L.length c (ents L) hx (ents_len L) hc (ents_one L) (by unfold maxLen; omega) (by omega)
      (fun v' w' q1 q2 q3 _ => hK v' w' (by rw [List.length_append, ents_append]; exact q1) q2 q3)

set_option maxRecDepth 100000 in
set_option maxHeartbeats 1000000 in
theorem dcopied_any (c : Cm) (v : Value) (w : World) (hv : IsEs w v c.L) (hl : c.L.length * 48 ≤ 140737488351232) : Calls Try.prog 33 #[cv c v] w fun e w' => ∃ v', e = .returned (cv c v') ∧ w'.ownsRow 0 28 6 v' c.L.length (ents c.L) ∧ Above w.heap.size (footOf v') ∧ Fr (fun _ => False) w w' := by
  obtain ⟨ao, cap, rfl, hl1, hl2⟩ := hv.len
  obtain ⟨s, r, m, h, L⟩ := c
  simp only [cv] at *
  have HV := hid hv
  have HL := hid hl
  obtain ⟨N, hN⟩ : ∃ N, N = L.length := ⟨_, rfl⟩
  rw [← hN] at HV ⊢
  have HN := hid hN
  clear hv hl hN hl1
  go_enter Try.func33, Try.ntmps33
  go_wp2_with (refine wpList_boxed rfl 26 _ rfl #[.int .i64 s, .int .i64 r, .int .i64 m, .int .i64 h, .slice ao N cap] rfl ?_)
  intro p w0 hp B1 f1 z1
  clear hp z1
  go_wp2_with (refine wpList_new rfl 26 rfl #[.int .i64 0, .int .i64 0, .int .i64 0, .int .i64 0, .slice none 0 0] zeroCm ?_)
  intro y w1 hy BY f2 z2
  have hyw : w.heap.size ≤ y := by have := f1.size; omega
  have hpy : ¬ p = y := by have := B1.lt; omega
  have HB1 := hid (B1.keep f2 (fun h => h))
  have HY1 := hid BY
  have HF1 := hid (f1.trans f2)
  have hbp := HB1.out
  clear hy z2 f1 f2 B1 BY
  go_wp2_with (first | (refine wpList_load_part rfl 26 _ rfl aggCm p 0 rfl hbp #[.int .i64 s, .int .i64 r, .int .i64 m, .int .i64 h, .slice ao N cap] rfl rfl ?_) | (refine wpList_new rfl 26 rfl #[.int .i64 0, .int .i64 0, .int .i64 0, .int .i64 0, .slice none 0 0] zeroCm ?_))
  intro q w2 hq B2 f3 z3
  have hqw : w.heap.size ≤ q := by have := HF1.out.size; omega
  have hpq : ¬ p = q := by have := HB1.out.lt; omega
  have hyq : ¬ y = q := by have := HY1.out.lt; omega
  have HB2 := hid (HB1.out.keep f3 (fun h => h))
  have HY2 := hid (HY1.out.keep f3 (fun h => h))
  have HF2 := hid (HF1.out.trans f3)
  clear hq z3 f3 hbp HB1 HY1 HF1
  go_wp2_with (refine wpList_store_part rfl 26 _ _ rfl aggCm q 0 rfl B2 (.agg #[.int .i64 s, .int .i64 r, .int .i64 m, .int .i64 h, .slice ao N cap]) rfl rfl (one_cc s r m h ao N cap) (Nat.le_refl 5) #[.int .i64 s, .int .i64 r, .int .i64 m, .int .i64 h, .slice ao N cap] rfl ?_)
  intro w3 B3 f4 z4
  have HB3 := hid (HB2.out.keep f4 hpq)
  have HY3 := hid (HY2.out.keep f4 hyq)
  have HF3 := hid (HF2.out.into f4 hqw)
  have q4 := B3.free 4
  have q5 : w3.cell? ⟨q, 4, none⟩ = some (.slice ao N cap) := B3.cell 4 rfl
  have p4 : w3.cell? ⟨p, 4, none⟩ = some (.slice ao N cap) := HB3.out.cell 4 rfl
  clear z4 f4 B2 HB2 HY2 HF2
  have HS := hid (HF3.out.setNew (p := ⟨q, 4, none⟩) hqw (.slice none 0 0))
  have HB4 := B3.set' 4 (.slice none 0 0) (ds := #[.int .i64 s, .int .i64 r, .int .i64 m, .int .i64 h, .slice none 0 0]) rfl
  have HP4 := HB3.out.other (p := ⟨q, 4, none⟩) hpq (.slice none 0 0)
  have HY4 := HY3.out.other (p := ⟨q, 4, none⟩) hyq (.slice none 0 0)
  go_wp2_with (at_builtin; refine wpList_append_big rfl _ _ rfl (.slice none 0 0) [] L rfl (World.ownsRow_nil _ _ _ _) (.slice ao N cap) rfl (HV.out.keep0 HS.out) (by have := HL.out; simp; omega) ?_)
  intro v' w5 hr5 f5 g5
  have f6 : Fr (fun _ => False) (w3.setCell ⟨q, 4, none⟩ (.slice none 0 0)) w5 := f5.mono (fun k _ hk => by simp [footOf, Value.ownBlock] at hk)
  have HAB : Hid (Above w.heap.size (footOf v')) := hid (fun k hk => by
    rcases g5 k hk with h | h
    · simp [footOf, Value.ownBlock] at h
    · exact Nat.le_trans HS.out.size h)
  have HB5 := HB4.keep f6 (fun h => h)
  have HY5 := HY4.keep f6 (fun h => h)
  have HF5 := hid (HS.out.trans f6)
  have HNQ : Hid (∀ k, k ∈ footOf v' → ¬ k = q ∧ ¬ k = y) := hid (fun k hk => by
    rcases g5 k hk with h | h
    · simp [footOf, Value.ownBlock] at h
    · have h1 := HB4.lt; have h2 := HY4.lt; omega)
  obtain ⟨a5, c5, rfl⟩ := rowN_shape hr5
  rw [← HN.out] at hr5 HAB HNQ ⊢
  have HR5 := hid hr5
  have y4 := HB5.free 4
  have y5 : w5.cell? ⟨q, 4, none⟩ = some (.slice none 0 0) := HB5.cell 4 rfl
  have HB6 := HB5.set' 4 (.slice a5 N c5) (ds := #[.int .i64 s, .int .i64 r, .int .i64 m, .int .i64 h, .slice a5 N c5]) rfl
  have HY6 := HY5.other (p := ⟨q, 4, none⟩) hyq (.slice a5 N c5)
  have HF6 := hid (HF5.out.setNew (p := ⟨q, 4, none⟩) hqw (.slice a5 N c5))
  have HR6 := hid (row_keep HR5.out ((Fr.refl (· = q) w5).set1 4 (.slice a5 N c5)) (fun k hk => (HNQ.out k hk).1))
  clear f5 f6 g5 q4 q5 p4 HB3 HB4 HP4 HY4 hr5 B3 HY3
  go_wp2_with (first | (refine wpList_load_part rfl 26 _ rfl aggCm q 0 rfl HB6 #[.int .i64 s, .int .i64 r, .int .i64 m, .int .i64 h, .slice a5 N c5] rfl rfl ?_) | (refine wpList_store_part rfl 26 _ _ rfl aggCm y 0 rfl HY6 (.agg #[.int .i64 s, .int .i64 r, .int .i64 m, .int .i64 h, .slice a5 N c5]) rfl rfl (one_cc s r m h a5 N c5) (by decide) #[.int .i64 s, .int .i64 r, .int .i64 m, .int .i64 h, .slice a5 N c5] rfl ?_))
  intro w7 B7 f7 z7
  have HF7 := hid (HF6.out.into f7 hyw)
  have HR7 := hid (row_keep HR6.out f7 (fun k hk => (HNQ.out k hk).2))
  clear f7 z7
  go_wp2_with fail
  exact bodyPost_ret (v := .agg #[.int .i64 s, .int .i64 r, .int .i64 m, .int .i64 h, .slice a5 N c5]) (results_cell1 rfl _ aggCm rfl B7 rfl) rfl ⟨.slice a5 N c5, rfl, HR7.out, HAB.out, HF7.out⟩

set_option maxRecDepth 100000 in
set_option maxHeartbeats 1000000 in
theorem lcopied_any (c : Cm) (v : Value) (w : World) (hv : IsEs w v c.L) (hl : c.L.length * 48 ≤ 140737488351232) : Calls Try.prog 8 #[cv c v] w fun e w' => ∃ v', e = .returned (cv c v') ∧ w'.ownsRow 0 28 6 v' c.L.length (ents c.L) ∧ Above w.heap.size (footOf v') ∧ Fr (fun _ => False) w w' := by
  obtain ⟨ao, cap, rfl, hl1, hl2⟩ := hv.len
  obtain ⟨s, r, m, h, L⟩ := c
  simp only [cv] at *
  have HV := hid hv
  have HL := hid hl
  obtain ⟨N, hN⟩ : ∃ N, N = L.length := ⟨_, rfl⟩
  rw [← hN] at HV ⊢
  have HN := hid hN
  clear hv hl hN hl1
  go_enter Try.func8, Try.ntmps8
  go_wp2_with (refine wpList_boxed rfl 26 _ rfl #[.int .i64 s, .int .i64 r, .int .i64 m, .int .i64 h, .slice ao N cap] rfl ?_)
  intro p w0 hp B1 f1 z1
  clear hp z1
  go_wp2_with (refine wpList_new rfl 26 rfl #[.int .i64 0, .int .i64 0, .int .i64 0, .int .i64 0, .slice none 0 0] zeroCm ?_)
  intro y w1 hy BY f2 z2
  have hyw : w.heap.size ≤ y := by have := f1.size; omega
  have hpy : ¬ p = y := by have := B1.lt; omega
  have HB1 := hid (B1.keep f2 (fun h => h))
  have HY1 := hid BY
  have HF1 := hid (f1.trans f2)
  have hbp := HB1.out
  clear hy z2 f1 f2 B1 BY
  go_wp2_with (first | (refine wpList_load_part rfl 26 _ rfl aggCm p 0 rfl hbp #[.int .i64 s, .int .i64 r, .int .i64 m, .int .i64 h, .slice ao N cap] rfl rfl ?_) | (refine wpList_new rfl 26 rfl #[.int .i64 0, .int .i64 0, .int .i64 0, .int .i64 0, .slice none 0 0] zeroCm ?_))
  intro q w2 hq B2 f3 z3
  have hqw : w.heap.size ≤ q := by have := HF1.out.size; omega
  have hpq : ¬ p = q := by have := HB1.out.lt; omega
  have hyq : ¬ y = q := by have := HY1.out.lt; omega
  have HB2 := hid (HB1.out.keep f3 (fun h => h))
  have HY2 := hid (HY1.out.keep f3 (fun h => h))
  have HF2 := hid (HF1.out.trans f3)
  clear hq z3 f3 hbp HB1 HY1 HF1
  go_wp2_with (refine wpList_store_part rfl 26 _ _ rfl aggCm q 0 rfl B2 (.agg #[.int .i64 s, .int .i64 r, .int .i64 m, .int .i64 h, .slice ao N cap]) rfl rfl (one_cc s r m h ao N cap) (Nat.le_refl 5) #[.int .i64 s, .int .i64 r, .int .i64 m, .int .i64 h, .slice ao N cap] rfl ?_)
  intro w3 B3 f4 z4
  have HB3 := hid (HB2.out.keep f4 hpq)
  have HY3 := hid (HY2.out.keep f4 hyq)
  have HF3 := hid (HF2.out.into f4 hqw)
  have q4 := B3.free 4
  have q5 : w3.cell? ⟨q, 4, none⟩ = some (.slice ao N cap) := B3.cell 4 rfl
  have p4 : w3.cell? ⟨p, 4, none⟩ = some (.slice ao N cap) := HB3.out.cell 4 rfl
  clear z4 f4 B2 HB2 HY2 HF2
  have HS := hid (HF3.out.setNew (p := ⟨q, 4, none⟩) hqw (.slice none 0 0))
  have HB4 := B3.set' 4 (.slice none 0 0) (ds := #[.int .i64 s, .int .i64 r, .int .i64 m, .int .i64 h, .slice none 0 0]) rfl
  have HP4 := HB3.out.other (p := ⟨q, 4, none⟩) hpq (.slice none 0 0)
  have HY4 := HY3.out.other (p := ⟨q, 4, none⟩) hyq (.slice none 0 0)
  go_wp2_with (at_builtin; refine wpList_append_big rfl _ _ rfl (.slice none 0 0) [] L rfl (World.ownsRow_nil _ _ _ _) (.slice ao N cap) rfl (HV.out.keep0 HS.out) (by have := HL.out; simp; omega) ?_)
  intro v' w5 hr5 f5 g5
  have f6 : Fr (fun _ => False) (w3.setCell ⟨q, 4, none⟩ (.slice none 0 0)) w5 := f5.mono (fun k _ hk => by simp [footOf, Value.ownBlock] at hk)
  have HAB : Hid (Above w.heap.size (footOf v')) := hid (fun k hk => by
    rcases g5 k hk with h | h
    · simp [footOf, Value.ownBlock] at h
    · exact Nat.le_trans HS.out.size h)
  have HB5 := HB4.keep f6 (fun h => h)
  have HY5 := HY4.keep f6 (fun h => h)
  have HF5 := hid (HS.out.trans f6)
  have HNQ : Hid (∀ k, k ∈ footOf v' → ¬ k = q ∧ ¬ k = y) := hid (fun k hk => by
    rcases g5 k hk with h | h
    · simp [footOf, Value.ownBlock] at h
    · have h1 := HB4.lt; have h2 := HY4.lt; omega)
  obtain ⟨a5, c5, rfl⟩ := rowN_shape hr5
  rw [← HN.out] at hr5 HAB HNQ ⊢
  have HR5 := hid hr5
  have y4 := HB5.free 4
  have y5 : w5.cell? ⟨q, 4, none⟩ = some (.slice none 0 0) := HB5.cell 4 rfl
  have HB6 := HB5.set' 4 (.slice a5 N c5) (ds := #[.int .i64 s, .int .i64 r, .int .i64 m, .int .i64 h, .slice a5 N c5]) rfl
  have HY6 := HY5.other (p := ⟨q, 4, none⟩) hyq (.slice a5 N c5)
  have HF6 := hid (HF5.out.setNew (p := ⟨q, 4, none⟩) hqw (.slice a5 N c5))
  have HR6 := hid (row_keep HR5.out ((Fr.refl (· = q) w5).set1 4 (.slice a5 N c5)) (fun k hk => (HNQ.out k hk).1))
  clear f5 f6 g5 q4 q5 p4 HB3 HB4 HP4 HY4 hr5 B3 HY3
  go_wp2_with (first | (refine wpList_load_part rfl 26 _ rfl aggCm q 0 rfl HB6 #[.int .i64 s, .int .i64 r, .int .i64 m, .int .i64 h, .slice a5 N c5] rfl rfl ?_) | (refine wpList_store_part rfl 26 _ _ rfl aggCm y 0 rfl HY6 (.agg #[.int .i64 s, .int .i64 r, .int .i64 m, .int .i64 h, .slice a5 N c5]) rfl rfl (one_cc s r m h a5 N c5) (by decide) #[.int .i64 s, .int .i64 r, .int .i64 m, .int .i64 h, .slice a5 N c5] rfl ?_))
  intro w7 B7 f7 z7
  have HF7 := hid (HF6.out.into f7 hyw)
  have HR7 := hid (row_keep HR6.out f7 (fun k hk => (HNQ.out k hk).2))
  clear f7 z7
  go_wp2_with fail
  exact bodyPost_ret (v := .agg #[.int .i64 s, .int .i64 r, .int .i64 m, .int .i64 h, .slice a5 N c5]) (results_cell1 rfl _ aggCm rfl B7 rfl) rfl ⟨.slice a5 N c5, rfl, HR7.out, HAB.out, HF7.out⟩
end Go.Proofs.Ytecngibenlcdiaa
