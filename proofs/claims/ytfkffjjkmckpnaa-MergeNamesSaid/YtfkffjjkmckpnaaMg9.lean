/-
  MERGES (ch 25): tell. Conditions: fewer than 100000 items.
-/
import Derived.Test.YtfkffjjkmckpnaaMg8
import Derived.Deep.LoopGhost
namespace Go.Proofs.Ytfkffjjkmckpnaa
open Go.RowKit Go.ChangeShapes Go.WideShapes Go.Deep

set_option linter.unusedSimpArgs false
set_option maxRecDepth 100000
theorem wpList_append_orow {P : Program} {w : World} {ops : Array Oper} {rest : List Oper} {o : Oper} {a : Act} {Q : Exit → Act → World → Prop} (hgd : o.guard = none) (s x : Operand) (t : TypeId)
    (hop : o.op = Op.call { callee := Callee.builtin Builtin.append, args := #[s, x], argTypes := #[t, t] })
    (e : TypeId) (i : TypeInfo) (z : Value) (size bytes : Nat) (h1 : P.underlying t = some (.slice e)) (h2 : P.info? e = some i) (h3 : i.zero = some z) (h4 : i.size = size) (h5 : i.bytes = bytes) (h6 : z.cells.size = size) (h7 : 0 < size)
    (v : Value) (n : Nat) (xs : List Value) (hs : a.eval s = v) (hown : ORow w e size v n xs)
    (ad : Addr) (m c : Nat) (news : List Value) (hx : a.eval x = .slice (some ad) m c) (hn : news.length = m * size) (hc : ∀ j u, news[j]? = some u → w.cell? (ad.add j) = some u) (h1c : ∀ u ∈ news, u.oneCell' = true) (hm : 0 < m)
    (b1 : n + m ≤ maxLen) (b2 : (n + m) * bytes ≤ 140737488355328)
    (hK : ∀ v' w', ORow w' e size v' (n + m) (xs ++ news) → Fr (· ∈ footOf v) w w' → (∀ k, k ∈ footOf v' → k ∈ footOf v ∨ w.heap.size ≤ k) → wpList P ops Q rest (a.put o.dst v') w') :
    wpList P ops Q (o :: rest) a w := by
  refine wpList_plain hgd fun K hKK => ?_
  obtain ⟨v', w', hrun, r1, r2, r3⟩ := run_append_orow (P := P) w t o.type e i z size bytes h1 h2 h3 h4 h5 h6 h7 v n xs hown ad m c news hn hc h1c hm b1 b2
  unfold Oper.wp
  simp [execOp, hop, resolve, invoke, builtin, hs, hx, hrun, Result.andThen]
  exact hKK _ _ (hK v' w' r1 r2 r3)
/-- How many items are there. -/
def cntK (S : SP) : Nat → Nat
  | 0 => 0
  | k + 1 => cntK S k + match S k with | some (_, L) => L.length | none => 0
def cntS (S : SP) : Nat := cntK S 9
theorem cntK_up {S : SP} {j : Nat} {fl : Ky} {x : PI} {r : List PI} (h : S j = some (fl, x :: r)) (k : Nat) : cntK S k = cntK (upS S j (fl, r)) k + if j < k then 1 else 0 := by
  induction k with
  | zero => rfl
  | succ k ih =>
    show cntK S k + (match S k with | some (_, L) => L.length | none => 0) = cntK (upS S j (fl, r)) k + (match upS S j (fl, r) k with | some (_, L) => L.length | none => 0) + _
    rw [ih]
    by_cases e : k = j
    · subst e
      rw [h]
      simp [upS]
      omega
    · have e' : (k : Int) ≠ (j : Int) := by omega
      rw [show upS S j (fl, r) k = S k from if_neg e']
      by_cases hj : j < k
      · rw [if_pos hj, if_pos (by omega)]; omega
      · rw [if_neg hj, if_neg (by omega)]; omega
theorem cntS_up {S : SP} {j : Int} {fl : Ky} {x : PI} {r : List PI} (h : S j = some (fl, x :: r)) (h0 : 0 ≤ j) (h8 : j ≤ 8) : cntS S = cntS (upS S j (fl, r)) + 1 := by
  obtain ⟨n, rfl⟩ : ∃ n : Nat, j = n := ⟨j.toNat, by omega⟩
  have := cntK_up h 9
  rw [if_pos (by omega)] at this
  exact this
/-- The blocks that telling writes. -/
def tellW (p : Nat) (F : Int → Option SM) (b : Nat) : Prop := b = p ∨ ∃ k s, F k = some s ∧ b = s.h
/-- The first item of a row, as a whole. -/
theorem Its.first {w : World} {g o N cap : Nat} {x : It} {r : List It} (h : Its w (.slice (some ⟨g, o, none⟩) N cap) (x :: r)) : ∃ cur, Blk w g cur 46 ∧ (cur.toList.drop o).take 21 = x.x.l x.v := by
  rcases h.1.2 with ⟨h0, _⟩ | ⟨g', o', cap', cur, he, h1, _, _, _, h5⟩
  · cases h0
  · injection he with e1 _ _
    injection e1 with e1
    injection e1 with e1 e2 _
    subst e1; subst e2
    refine ⟨cur, h1, ?_⟩
    have h6 := congrArg (List.take 21) h5
    rw [List.take_take, List.flatMap_cons, show min 21 ((x :: r).length * 21) = 21 by simp only [List.length_cons]; omega] at h6
    rw [h6]
    exact List.take_left' x.len
/-- What has come of the streams while telling. -/
structure Came (F F' : Int → Option SM) : Prop where
  one : ∀ k s', F' k = some s' → ∃ s, F k = some s ∧ s'.h = s.h ∧ s'.fl = s.fl ∧ (∀ b, b ∈ footOf s'.v → b ∈ footOf s.v) ∧ ∀ x ∈ s'.L, x ∈ s.L
theorem Came.refl (F : Int → Option SM) : Came F F := ⟨fun _ s h => ⟨s, h, rfl, rfl, fun _ h => h, fun _ h => h⟩⟩
theorem Came.fp {F F' : Int → Option SM} (h : Came F F') {p m : Nat} {b : Nat} (hb : mfp p m F' b) : mfp p m F b := by
  rcases hb with rfl | rfl | ⟨k, s, hs, hb⟩
  · exact .inl rfl
  · exact .inr (.inl rfl)
  · obtain ⟨s0, h1, h2, h3, h4, h5⟩ := h.one k s hs
    refine .inr (.inr ⟨k, s0, h1, ?_⟩)
    rcases hb with rfl | hb | ⟨x, hx, h0, hb⟩
    · exact .inl h2
    · exact .inr (.inl (h4 b hb))
    · exact .inr (.inr ⟨x, h5 x hx, h0, hb⟩)
theorem Came.step {F F' : Int → Option SM} (h : Came F F') {j : Int} {s : SM} (hs : F' j = some s) {u : Value} {x : It} {r : List It} (hx : s.L = x :: r) (hu : ∀ b, b ∈ footOf u → b ∈ footOf s.v) : Came F (fun k => if k = j then some ⟨s.h, s.fl, u, r⟩ else F' k) := by
  refine ⟨fun k s' hk => ?_⟩
  by_cases e : k = j
  · simp only [if_pos e, Option.some.injEq] at hk
    subst hk
    obtain ⟨s0, h1, h2, h3, h4, h5⟩ := h.one j s hs
    exact ⟨s0, e ▸ h1, h2, h3, fun b hb => h4 b (hu b hb), fun y hy => h5 y (by rw [hx]; exact List.mem_cons_of_mem _ hy)⟩
  · simp only [if_neg e] at hk
    exact h.one k s' hk
section
variable {w : World} {p m : Nat} {F : Int → Option SM} {la : Ky}
set_option maxHeartbeats 4000000 in
theorem tell_mg (may : SP → Ky → Bool) (f : Nat) (c : Value) (hcf : ∀ (args : Array Value) (W : World), (callFunc f args).run Try.prog W = .ok (.enter f args) W) (h : MG w p m F la) (hcnt : cntS (abs F) < 100000)
    (HM : ∀ W F' la', Fr (tellW p F) w W → MG W p m F' la' → ∀ k : Ky, Calls Try.prog f #[k.agg, c] W fun e w' => e = .returned (.bool (may (abs F') k)) ∧ Fr (fun _ => False) W w') :
    Calls Try.prog 32 #[.pointer (some ⟨p, 0, none⟩), .func (.func f) #[] #[c]] w fun e w' => ∃ v' F' la' out i, e = .returned v' ∧ itS may i ⟨abs F, la, []⟩ = ⟨abs F', la', out.map (·.x)⟩ ∧ nextS may ⟨abs F', la', out.map (·.x)⟩ = none ∧ MG w' p m F' la' ∧ Came F F' ∧ Its w' v' out ∧ (∀ b, b ∈ footOf v' → w.heap.size ≤ b) ∧ (∀ x ∈ out, ∃ k s, F k = some s ∧ x ∈ s.L) ∧ Fr (tellW p F) w w' := by
  have HG := hid h
  have HC := hid hcnt
  have HMA := hid HM
  clear h hcnt HM
  go_enter Try.func32, Try.ntmps32
  go_wp2_with fail
  with_reducible refine (first_mg HG.out).mono ?_
  rintro e w1 ⟨rfl, f1⟩
  have HF1 := hid f1
  have HG1 := hid (HG.out.keep0 f1)
  clear f1
  go_wp2_with fail
  go_loopg [5, 6] (cntS (abs F)) (fun g v fp wr => ∃ (i : Nat) (F' : Int → Option SM) (la' : Ky) (out : List It), g = cntS (abs F') ∧ out.length + g ≤ cntS (abs F) ∧ fp = ptrF F' (firstK F' 9) ∧ itS may i ⟨abs F, la, []⟩ = ⟨abs F', la', out.map (·.x)⟩ ∧ MG wr p m F' la' ∧ Came F F' ∧ Its wr v out ∧ (∀ b, b ∈ footOf v → w.heap.size ≤ b) ∧ (∀ x ∈ out, ∃ k s, F k = some s ∧ x ∈ s.L) ∧ Fr (tellW p F) w wr)
  case atStart => exact ⟨0, F, la, [], rfl, by simp, rfl, rfl, HG1.out, Came.refl F, Its.nil _, fun b hb => by simp [footOf, Value.ownBlock] at hb, fun x hx => by simp at hx, HF1.out.mono (fun _ _ h => h.elim)⟩
  case round =>
    obtain ⟨i, F', la', out, rfl, hlen, rfl, hit, hg, hcm, hits, hab, hin, hf⟩ := hrel
    have HLN := hid hlen
    have HIT := hid hit
    have HGR := hid hg
    have HCM := hid hcm
    have HIS := hid hits
    have HAB := hid hab
    have HIN := hid hin
    have HF := hid hf
    have HFA := hid (first_abs F' 9)
    clear hlen hit hg hcm hits hab hin hf HG1 HF1
    cases hff : firstK F' 9 with
    | none =>
      rw [hff] at HFA
      rw [ptr_none]
      have HST : Hid (nextS may ⟨abs F', la', out.map (·.x)⟩ = none) := hid (by unfold nextS; simp only; rw [HFA.out])
      clear hff
      go_wp2_with fail
      go_ret
      exact ⟨_, F', la', out, i, rfl, HIT.out, HST.out, HGR.out, HCM.out, HIS.out, HAB.out, HIN.out, HF.out⟩
    | some j =>
      rw [hff] at HFA
      obtain ⟨s, hs, hs0⟩ := firstK_some hff
      rw [ptr_some hs]
      have HS := hid hs
      obtain ⟨x, r, hxr⟩ : ∃ x r, s.L = x :: r := by
        cases h : s.L with
        | nil => exact absurd h hs0
        | cons x r => exact ⟨x, r, rfl⟩
      have HXR := hid hxr
      have HEN := hid (HGR.out.ent j s hs)
      obtain ⟨g, o, cap, N, hv, hN, hN0, hNc, hcap, q0, q1, q2, q3⟩ := HEN.out.2.head hs0
      have HV := hid hv
      have HN := hid hN
      have HNC := hid hNc
      have HCP := hid hcap
      have c4 : wr.cell? ⟨s.h, 4, none⟩ = some (.slice (some ⟨g, o, none⟩) N cap) := hv ▸ HEN.out.1.cell 4 rfl
      rw [hxr] at q0 q1 q2 q3
      simp only [hdL] at q0 q1 q2 q3
      have HMK := hid (HMA.out wr F' la' HF.out HGR.out x.x.k)
      unfold Ky.agg at HMK
      clear hff hs hs0 hxr hv hN hNc hcap
      go_wp2_with fail
      with_reducible refine HMK.out.mono ?_
      rintro e w2 ⟨rfl, f2⟩
      have HF2 := hid (HF.out.trans (f2.mono (fun _ _ h => h.elim)))
      have HG2 := hid (HGR.out.keep0 f2)
      have HIS2 := hid (HIS.out.keep f2 (fun _ _ h => h) (fun _ _ h => h))
      clear f2 HMK c4 q0 q1 q2 q3 HGR HIS HF HEN
      have HAJ : Hid (abs F' j = some (s.fl, x.x :: r.map (·.x))) := hid (by rw [abs_at HS.out, HXR.out]; rfl)
      cases hmay : may (abs F') x.x.k with
      | false =>
        have HST : Hid (nextS may ⟨abs F', la', out.map (·.x)⟩ = none) := hid (by unfold nextS; simp only; rw [HFA.out]; simp only; rw [HAJ.out]; simp only; rw [hmay]; rfl)
        clear hmay
        go_wp2_with fail
        go_ret
        exact ⟨_, F', la', out, i, rfl, HIT.out, HST.out, HG2.out, HCM.out, HIS2.out, HAB.out, HIN.out, HF2.out⟩
      | true =>
        have HNX : Hid (nextS may ⟨abs F', la', out.map (·.x)⟩ = some (takeS ⟨abs F', la', out.map (·.x)⟩ j s.fl x.x (r.map (·.x)))) := hid (by unfold nextS; simp only; rw [HFA.out]; simp only; rw [HAJ.out]; simp only; rw [hmay]; rfl)
        clear hmay
        have HEN2 := hid (HG2.out.ent j s HS.out)
        obtain ⟨cur, hcur, htk⟩ := Its.first (w := w2) (g := g) (o := o) (N := N) (cap := cap) (x := x) (r := r) (by have h := HEN2.out.2; rw [HV.out, HXR.out] at h; exact h)
        have c4 : w2.cell? ⟨s.h, 4, none⟩ = some (.slice (some ⟨g, o, none⟩) N cap) := HV.out ▸ HEN2.out.1.cell 4 rfl
        have HBA := hid ((HEN2.out.2.2 x (by rw [HXR.out]; exact List.mem_cons_self)))
        go_wp2_with (first | (refine wpList_load_part rfl 46 _ rfl aggItem g o rfl hcur (x.x.a x.v) htk rfl ?_) | (refine wpList_new rfl 46 rfl #[.int .i64 0, .int .i64 0, .int .i64 0, .int .i64 0, .int .i64 0, .int .i64 0, .int .i64 0, .int .i64 0, .int .i64 0, .int .i64 0, .int .i64 0, .bool false, .int .i64 0, .int .i64 0, .int .i64 0, .int .i64 0, .slice none 0 0, .int .i64 0, .int .i64 0, .int .i64 0, .int .i64 0] zeroItem ?_))
        intro t w3 ht B3 f3 z3
        have HT3 := hid ht
        have HF3 := hid f3
        clear ht z3 hcur htk c4
        go_wp2_with (refine wpList_store_part rfl 46 _ _ rfl aggItem t 0 rfl B3 (.agg (x.x.a x.v)) rfl rfl (x.x.one (slice_one w2 HBA.out.1.1)) (by decide) (x.x.a x.v) rfl ?_)
        intro w4 B4 f4 z4
        have HF4 : Hid (Fr (fun _ => False) w2 w4) := hid (HF3.out.step f4 (fun b hb e => by have h1 : b = t := e; have h2 := HT3.out; omega))
        have HB4 := hid B4
        have HG4 := hid (HG2.out.keep0 HF4.out)
        have HEN4 := hid (HG4.out.ent j s HS.out)
        have c4 : w4.cell? ⟨s.h, 4, none⟩ = some (.slice (some ⟨g, o, none⟩) N cap) := HV.out ▸ HEN4.out.1.cell 4 rfl
        have y4 := HEN4.out.1.free 4
        have hnc := HNC.out
        have hcp := HCP.out
        clear B4 f4 z4 B3 f3
        go_wp2_with fail
        rotate_left 1
        · skip
          have f6 : Fr (· = s.h) w4 (w4.setCell ⟨s.h, 4, none⟩ (.slice (some ⟨g, o + 21, none⟩) (N - 1) (cap - 1))) := (Fr.refl _ w4).set1 4 _
          have HBS := hid (HEN4.out.1.set' 4 (.slice (some ⟨g, o + 21, none⟩) (N - 1) (cap - 1)) (rfl : _ = SM.a ⟨s.h, s.fl, .slice (some ⟨g, o + 21, none⟩) (N - 1) (cap - 1), r⟩))
          have hNr : N = r.length + 1 := by have h := HN.out; rw [HXR.out] at h; simpa using h
          have HIR : Hid (Its (w4.setCell ⟨s.h, 4, none⟩ (.slice (some ⟨g, o + 21, none⟩) (N - 1) (cap - 1))) (.slice (some ⟨g, o + 21, none⟩) (N - 1) (cap - 1)) r) := hid (by
            have hr := HEN4.out.2.1
            rw [HV.out, HXR.out] at hr
            have hr' : ORow w4 46 21 (.slice (some ⟨g, o, none⟩) N cap) N ((x :: r).flatMap It.l) := by rw [hNr] at hr ⊢; exact hr
            have h2 := hr'.tail hN0
            rw [List.flatMap_cons, List.drop_left' x.len] at h2
            have hT : ∀ {b : Nat} {cs : Array Value} {t' : TypeId}, Blk w4 b cs t' → t' ≠ 76 → ¬ b = s.h := fun k h1 e => h1 ((e ▸ k).type HEN4.out.1)
            have h3 := h2.keep f6 (fun b hb => by obtain ⟨cs, k⟩ := h2.type hb; exact hT k (by decide))
            have e1 : N - 1 = r.length := by omega
            refine ⟨by rw [← e1]; exact h3, fun y hy => ?_⟩
            have hy' : y ∈ s.L := by rw [HXR.out]; exact List.mem_cons_of_mem _ hy
            exact (HEN4.out.2.2 y hy').keep f6 (fun b h0 hb => by obtain ⟨cs, k⟩ := (HEN4.out.2.2 y hy').2 h0 b hb; exact hT k (by decide)))
          have hvf : ∀ b, b ∈ footOf (.slice (some ⟨g, o + 21, none⟩) (N - 1) (cap - 1)) → b ∈ footOf s.v := fun b hb => by rw [HV.out]; exact hb
          have HG6 := hid (HG4.out.turn (s' := ⟨s.h, s.fl, .slice (some ⟨g, o + 21, none⟩) (N - 1) (cap - 1), r⟩) HS.out rfl (f6.mono (fun b _ h => .inl h)) HBS.out HIR.out (fun b hb => .inl (hvf b hb)))
          have HB6 := hid (HB4.out.keep f6 (fun e => absurd ((e ▸ HB4.out).type HEN4.out.1) (by decide)))
          have HF6 := hid f6
          have HVF := hid hvf
          clear f6 hNr hvf HBS HIR HEN4 HG4 HB4 c4 y4 hnc hcp
          generalize w4.setCell ⟨s.h, 4, none⟩ (.slice (some ⟨g, o + 21, none⟩) (N - 1) (cap - 1)) = w6 at *
          obtain ⟨u, hu⟩ : ∃ u : Value, u = (.slice (some ⟨g, o + 21, none⟩) (N - 1) (cap - 1)) := ⟨_, rfl⟩
          rw [← hu] at HG6 HVF
          clear hu
          have PS : Hid (∀ W, Fr (fun _ => False) w6 W → W.cell? ⟨t, 0, none⟩ = some (.int .i64 x.x.k.s) ∧ W.cell? ⟨t, 1, none⟩ = some (.int .i64 x.x.k.r) ∧ W.cell? ⟨t, 2, none⟩ = some (.int .i64 x.x.k.p) ∧ W.cell? ⟨t, 3, none⟩ = some (.int .i64 x.x.k.q) ∧ W.cell? ⟨p, 1, none⟩ = some (.int .i64 la'.s) ∧ W.cell? ⟨p, 2, none⟩ = some (.int .i64 la'.r) ∧ W.cell? ⟨p, 3, none⟩ = some (.int .i64 la'.p) ∧ W.cell? ⟨p, 4, none⟩ = some (.int .i64 la'.q)) := hid (fun W f => by
            have a := HB6.out.keep f (fun h => h)
            have b := HG6.out.blk.keep f (fun h => h)
            exact ⟨a.cell 0 rfl, a.cell 1 rfl, a.cell 2 rfl, a.cell 3 rfl, b.cell 1 rfl, b.cell 2 rfl, b.cell 3 rfl, b.cell 4 rfl⟩)
          have HKC := hid (fun W => keys_any x.x.k.s x.x.k.r x.x.k.p x.x.k.q la'.s la'.r la'.p la'.q W)
          rw [show kcmp x.x.k.s x.x.k.r x.x.k.p x.x.k.q la'.s la'.r la'.p la'.q = kc x.x.k la' from rfl] at HKC
          obtain ⟨C, hC⟩ : ∃ C, kc x.x.k la' = C := ⟨_, rfl⟩
          rw [hC] at HKC
          have HCC := hid hC
          clear hC
          refine wp_region_held_drew (S := fun W => W.cell? ⟨t, 0, none⟩ = some (.int .i64 x.x.k.s) ∧ W.cell? ⟨t, 1, none⟩ = some (.int .i64 x.x.k.r) ∧ W.cell? ⟨t, 2, none⟩ = some (.int .i64 x.x.k.p) ∧ W.cell? ⟨t, 3, none⟩ = some (.int .i64 x.x.k.q) ∧ W.cell? ⟨p, 1, none⟩ = some (.int .i64 la'.s) ∧ W.cell? ⟨p, 2, none⟩ = some (.int .i64 la'.r) ∧ W.cell? ⟨p, 3, none⟩ = some (.int .i64 la'.p) ∧ W.cell? ⟨p, 4, none⟩ = some (.int .i64 la'.q)) (by kernel_rfl) (PS.out _ (Fr.refl _ _).drew) (fun hHeld => ?_)
          refine wpAnyH_take (i := 0) (v := ?_) rfl (by kernel_rfl) (by kernel_rfl) (by kernel_rfl) (fun _ _ _ h => h) (Or.inl ⟨by rfl, ?_⟩) hHeld ?_
          rotate_left 1
          · (intro w hSw; (try dsimp only at hSw); go_simp <;> with_reducible rfl)
          try simp only [Act.put, List.setIfInBounds_toArray, List.set_cons_zero, List.set_cons_succ, List.getElem_toArray, List.getElem_cons_succ, List.getElem_cons_zero]
          refine wpAnyH_take (i := 1) (v := ?_) rfl (by kernel_rfl) (by kernel_rfl) (by kernel_rfl) (fun _ _ _ h => h) (Or.inl ⟨by rfl, ?_⟩) hHeld ?_
          rotate_left 1
          · (intro w hSw; (try dsimp only at hSw); go_simp <;> with_reducible rfl)
          try simp only [Act.put, List.setIfInBounds_toArray, List.set_cons_zero, List.set_cons_succ, List.getElem_toArray, List.getElem_cons_succ, List.getElem_cons_zero]
          refine wpAnyH_take (i := 2) (v := ?_) rfl (by kernel_rfl) (by kernel_rfl) (by kernel_rfl) (fun _ _ _ h => h) (Or.inl ⟨by rfl, ?_⟩) hHeld ?_
          rotate_left 1
          · (intro w hSw; (try dsimp only at hSw); go_simp <;> with_reducible rfl)
          try simp only [Act.put, List.setIfInBounds_toArray, List.set_cons_zero, List.set_cons_succ, List.getElem_toArray, List.getElem_cons_succ, List.getElem_cons_zero]
          refine wpAnyH_take (i := 3) (v := ?_) rfl (by kernel_rfl) (by kernel_rfl) (by kernel_rfl) (fun _ _ _ h => h) (Or.inl ⟨by rfl, ?_⟩) hHeld ?_
          rotate_left 1
          · (intro w hSw; (try dsimp only at hSw); go_simp <;> with_reducible rfl)
          try simp only [Act.put, List.setIfInBounds_toArray, List.set_cons_zero, List.set_cons_succ, List.getElem_toArray, List.getElem_cons_succ, List.getElem_cons_zero]
          refine wpAnyH_take (i := 4) (v := ?_) rfl (by kernel_rfl) (by kernel_rfl) (by kernel_rfl) (fun _ _ _ h => h) (Or.inl ⟨by rfl, ?_⟩) hHeld ?_
          rotate_left 1
          · (intro w hSw; (try dsimp only at hSw); go_simp <;> with_reducible rfl)
          try simp only [Act.put, List.setIfInBounds_toArray, List.set_cons_zero, List.set_cons_succ, List.getElem_toArray, List.getElem_cons_succ, List.getElem_cons_zero]
          refine wpAnyH_take (i := 5) (v := ?_) rfl (by kernel_rfl) (by kernel_rfl) (by kernel_rfl) (fun _ _ _ h => h) (Or.inl ⟨by rfl, ?_⟩) hHeld ?_
          rotate_left 1
          · (intro w hSw; (try dsimp only at hSw); go_simp <;> with_reducible rfl)
          try simp only [Act.put, List.setIfInBounds_toArray, List.set_cons_zero, List.set_cons_succ, List.getElem_toArray, List.getElem_cons_succ, List.getElem_cons_zero]
          refine wpAnyH_ready (rs := [6]) (by kernel_rfl) (by simp) ?_
          refine AllReadyH.cons rfl (fun K hK => ?_) AllReadyH.nil
          clear hHeld
          go_simp
          go_at_call 17
          refine (HKC.out _).mono ?_
          rintro e w7 ⟨rfl, hacc⟩
          refine hK.out _ _ (PS.out _ ((Fr.refl _ _).drew.trans hacc)) (fun hHeld => ?_)
          clear hK K
          try simp only [Act.put, List.setIfInBounds_toArray, List.set_cons_zero, List.set_cons_succ, List.getElem_toArray, List.getElem_cons_succ, List.getElem_cons_zero]
          have HF7 := hid ((Fr.refl (fun _ => False) w6).drew.trans hacc)
          clear hacc
          refine wpAnyH_take (i := 7) (v := ?_) rfl (by kernel_rfl) (by kernel_rfl) (by kernel_rfl) (fun _ _ _ h => h) (Or.inl ⟨by rfl, ?_⟩) hHeld ?_
          rotate_left 1
          · (intro w hSw; (try dsimp only at hSw); go_simp <;> with_reducible rfl)
          try simp only [Act.put, List.setIfInBounds_toArray, List.set_cons_zero, List.set_cons_succ, List.getElem_toArray, List.getElem_cons_succ, List.getElem_cons_zero]
          refine wpAnyH_done (by kernel_rfl) ?_ _
          clear hHeld
          clear PS HKC
          have HB7 := hid (HB6.out.keep HF7.out (fun h => h))
          have HG7 := hid (HG6.out.keep0 HF7.out)
          by_cases hC : 0 < C
          · have d1 : decide (0 < C) = true := decide_eq_true hC
            go_wp2_with (first | (refine wpList_load_part rfl 32 _ rfl aggKey t 0 rfl HB7.out #[.int .i64 x.x.k.s, .int .i64 x.x.k.r, .int .i64 x.x.k.p, .int .i64 x.x.k.q] rfl rfl ?_) | (refine wpList_store_part rfl 32 _ _ rfl aggKey p 1 rfl HG7.out.blk (.agg #[.int .i64 x.x.k.s, .int .i64 x.x.k.r, .int .i64 x.x.k.p, .int .i64 x.x.k.q]) rfl rfl (one_key x.x.k) (by show 1 + 4 ≤ 5; decide) (mgA m x.x.k) rfl ?_))
            intro w8 B8 f8 z8
            have HG8 := hid (HG7.out.told f8 B8)
            have HB8 := hid (HB7.out.keep f8 (fun e => absurd ((e ▸ HB7.out).type HG7.out.blk) (by decide)))
            have HF8 := hid f8
            clear B8 f8 z8
            go_wp2_with (first | (refine wpList_load_part rfl 46 _ rfl aggItem t 0 rfl HB8.out (x.x.a x.v) rfl rfl ?_) | (refine wpList_build_one rfl 39 _ rfl Try.underlying39 aggItem (by decide) (by decide) zeroItem (x.x.a x.v) rfl rfl ?_))
            intro z9 w9 hz9 B9 f9 _
            have HF9 := hid f9
            have hf29 : Fr (fun b => b = s.h ∨ b = p) w2 w9 := (((HF4.out.mono (fun _ _ h => h.elim)).trans (HF6.out.mono (fun _ _ h => .inl h))).trans (HF7.out.mono (fun _ _ h => h.elim))).trans ((HF8.out.mono (fun _ _ h => .inr h)).trans (HF9.out.mono (fun _ _ h => h.elim)))
            have HF29 := hid hf29
            have HT2 : Hid (∀ {b : Nat} {cs : Array Value} {t' : TypeId}, Blk w2 b cs t' → t' ≠ 76 → t' ≠ 71 → ¬ (b = s.h ∨ b = p)) := hid (fun k h1 h2 e => by
              rcases e with e | e
              · exact h1 ((e ▸ k).type HEN2.out.1)
              · exact h2 ((e ▸ k).type HG2.out.blk))
            have HIS9 := hid (HIS2.out.keep hf29 (fun b hb => by obtain ⟨cs, k⟩ := HIS2.out.1.type hb; exact HT2.out k (by decide) (by decide)) (fun b hb => by obtain ⟨cs, k⟩ := HIS2.out.body hb; exact HT2.out k (by decide) (by decide)))
            have HBA9 := hid (HBA.out.keep hf29 (fun b h0 hb => by obtain ⟨cs, k⟩ := HBA.out.2 h0 b hb; exact HT2.out k (by decide) (by decide)))
            have HG9 := hid (HG8.out.keep0 f9)
            have HB9 := hid B9
            have HCT : Hid (cntS (abs F') = cntS (abs (fun k => if k = j then some ⟨s.h, s.fl, u, r⟩ else F' k)) + 1) := hid (by rw [abs_up]; exact cntS_up HAJ.out (HG2.out.dom j s HS.out).1 (HG2.out.dom j s HS.out).2)
            have HOL : Hid (out.length < 100000) := hid (by have h1 := HLN.out; have h2 := HC.out; omega)
            obtain ⟨i0, hi0, i1, i2, i3⟩ := itemI
            clear hf29 f9 hz9 B9
            go_wp2_with (at_builtin; refine wpList_append_orow rfl (.tmp 52) (.tmp 54) 39 rfl 46 i0 _ 21 184 Try.underlying39 hi0 i1 i2 i3 rfl (by decide) u5 out.length (out.flatMap It.l) rfl HIS9.out.1 ⟨z9, 0, none⟩ 1 1 (x.x.l x.v) rfl rfl (blk_src HB9.out _ rfl) (x.x.one (slice_one w9 HBA9.out.1.1)) (by decide) (by have := HOL.out; unfold maxLen; omega) (by have := HOL.out; omega) ?_)
            intro u9 w10 r10 f10 g10
            have HF10 := hid f10
            have hfp : ∀ b, mfp p m F' b → b < w.heap.size := fun b hb => HG.out.live b (HCM.out.fp hb)
            have hcm2 := HCM.out.step HS.out HXR.out HVF.out
            have HCM2 := hid hcm2
            have hfp2 : ∀ b, mfp p m (fun k => if k = j then some ⟨s.h, s.fl, u, r⟩ else F' k) b → b < w.heap.size := fun b hb => HG.out.live b (hcm2.fp hb)
            have HG10 := hid (HG9.out.keep f10 (fun b hb e => by have h1 := hfp2 b hb; have h2 := HAB.out b e; omega))
            have HI10 : Hid (Its w10 u9 (out ++ [x])) := hid (by
              refine ⟨by rw [List.flatMap_append, List.length_append]; simpa [It.l] using r10, fun y hy => ?_⟩
              have hT : ∀ b, (∃ cs, Blk w9 b cs 5) → ¬ b ∈ footOf u5 := fun b ⟨cs, k⟩ hb => by
                obtain ⟨ds, k'⟩ := HIS9.out.1.type hb
                exact absurd (k.type k') (by decide)
              rcases List.mem_append.1 hy with hy | hy
              · exact (HIS9.out.2 y hy).keep f10 (fun b h0 hb => hT b ((HIS9.out.2 y hy).2 h0 b hb))
              · simp only [List.mem_singleton] at hy
                subst hy
                exact HBA9.out.keep f10 (fun b h0 hb => hT b (HBA9.out.2 h0 b hb)))
            have HAB10 : Hid (∀ b, b ∈ footOf u9 → w.heap.size ≤ b) := hid (fun b hb => by
              rcases g10 b hb with h | h
              · exact HAB.out b h
              · have h1 := HF2.out.size
                have h2 := HF29.out.size
                omega)
            have HIN10 : Hid (∀ y ∈ out ++ [x], ∃ k s, F k = some s ∧ y ∈ s.L) := hid (fun y hy => by
              rcases List.mem_append.1 hy with hy | hy
              · exact HIN.out y hy
              · simp only [List.mem_singleton] at hy
                subst hy
                obtain ⟨s0, h1, _, _, _, h5⟩ := HCM.out.one j s HS.out
                exact ⟨j, s0, h1, h5 y (by rw [HXR.out]; exact List.mem_cons_self)⟩)
            have HFW : Hid (Fr (tellW p F) w w10) := hid ((HF2.out.step HF29.out (fun b hb e => by
              rcases e with e | e
              · obtain ⟨s0, h1, h2, _⟩ := HCM.out.one j s HS.out
                exact .inr ⟨j, s0, h1, by omega⟩
              · exact .inl e)).step f10 (fun b hb e => by have h2 := HAB.out b e; omega))
            have HPC : Hid (0 < C) := hid hC
            clear r10 f10 g10 hfp hfp2 hcm2
            go_wp2_with fail
            with_reducible refine (first_mg HG10.out).mono ?_
            rintro e w11 ⟨rfl, f11⟩
            have HG11 := hid (HG10.out.keep0 f11)
            have HI11 := hid (HI10.out.keep f11 (fun _ _ h => h) (fun _ _ h => h))
            have HF11 := hid (HFW.out.trans (f11.mono (fun _ _ h => h.elim)))
            clear f11
            go_wp2_with fail
            go_roundg (cntS (abs (fun k => if k = j then some ⟨s.h, s.fl, u, r⟩ else F' k)))
            case rel => exact ⟨i + 1, _, x.x.k, out ++ [x], rfl, by have := HLN.out; have := HCT.out; rw [List.length_append, List.length_singleton]; omega, rfl, by
              show (match nextS may (itS may i ⟨abs F, la, []⟩) with | none => itS may i ⟨abs F, la, []⟩ | some s => s) = _
              rw [HIT.out, HNX.out, abs_up]
              show takeS _ j s.fl x.x (r.map (·.x)) = _
              unfold takeS
              rw [HCC.out, if_pos HPC.out, if_pos HPC.out, List.map_append]; rfl, HG11.out, HCM2.out, HI11.out, HAB10.out, HIN10.out, HF11.out⟩
            case measure => have := HCT.out; omega
          · have d1 : decide (0 < C) = false := decide_eq_false hC
            have HNC := hid hC
            go_wp2_with fail
            with_reducible refine (first_mg HG7.out).mono ?_
            rintro e w8 ⟨rfl, f8⟩
            have HG8 := hid (HG7.out.keep0 f8)
            have HF8 := hid f8
            clear f8
            have HCT : Hid (cntS (abs F') = cntS (abs (fun k => if k = j then some ⟨s.h, s.fl, u, r⟩ else F' k)) + 1) := hid (by rw [abs_up]; exact cntS_up HAJ.out (HG2.out.dom j s HS.out).1 (HG2.out.dom j s HS.out).2)
            have hf28 : Fr (· = s.h) w2 w8 := ((HF4.out.mono (fun _ _ h => h.elim)).trans HF6.out).trans ((HF7.out.trans HF8.out).mono (fun _ _ h => h.elim))
            have HF28 := hid hf28
            have HT2 : Hid (∀ {b : Nat} {cs : Array Value} {t' : TypeId}, Blk w2 b cs t' → t' ≠ 76 → ¬ b = s.h) := hid (fun k h1 e => h1 ((e ▸ k).type HEN2.out.1))
            have HIS8 := hid (HIS2.out.keep hf28 (fun b hb => by obtain ⟨cs, k⟩ := HIS2.out.1.type hb; exact HT2.out k (by decide)) (fun b hb => by obtain ⟨cs, k⟩ := HIS2.out.body hb; exact HT2.out k (by decide)))
            have HFW := hid (HF2.out.step hf28 (fun b hb e => by have e1 : b = s.h := e; obtain ⟨s0, h1, h2, _⟩ := HCM.out.one j s HS.out; exact .inr ⟨j, s0, h1, by omega⟩))
            clear hf28
            go_wp2_with fail
            go_roundg (cntS (abs (fun k => if k = j then some ⟨s.h, s.fl, u, r⟩ else F' k)))
            case rel => exact ⟨i + 1, _, la', out, rfl, by have := HLN.out; have := HCT.out; omega, rfl, by
              show (match nextS may (itS may i ⟨abs F, la, []⟩) with | none => itS may i ⟨abs F, la, []⟩ | some s => s) = _
              rw [HIT.out, HNX.out, abs_up]
              show takeS _ j s.fl x.x (r.map (·.x)) = _
              unfold takeS
              rw [HCC.out, if_neg (by have := HNC.out; omega), if_neg (by have := HNC.out; omega)], HG8.out, HCM.out.step HS.out HXR.out HVF.out, HIS8.out, HAB.out, HIN.out, HFW.out⟩
            case measure => have := HCT.out; omega
        · skip
          have f6 : Fr (· = s.h) w4 (w4.setCell ⟨s.h, 4, none⟩ (.slice (some ⟨g, o, none⟩) (N - 1) 0)) := (Fr.refl _ w4).set1 4 _
          have HBS := hid (HEN4.out.1.set' 4 (.slice (some ⟨g, o, none⟩) (N - 1) 0) (rfl : _ = SM.a ⟨s.h, s.fl, .slice (some ⟨g, o, none⟩) (N - 1) 0, r⟩))
          have hNr : N = r.length + 1 := by have h := HN.out; rw [HXR.out] at h; simpa using h
          have HIR : Hid (Its (w4.setCell ⟨s.h, 4, none⟩ (.slice (some ⟨g, o, none⟩) (N - 1) 0)) (.slice (some ⟨g, o, none⟩) (N - 1) 0) r) := hid (by
            have hr := HEN4.out.2.1
            rw [HV.out, HXR.out] at hr
            have hr' : ORow w4 46 21 (.slice (some ⟨g, o, none⟩) N cap) N ((x :: r).flatMap It.l) := by rw [hNr] at hr ⊢; exact hr
            have h2 := hr'.tail0 (by omega)
            rw [List.flatMap_cons, List.drop_left' x.len] at h2
            have hT : ∀ {b : Nat} {cs : Array Value} {t' : TypeId}, Blk w4 b cs t' → t' ≠ 76 → ¬ b = s.h := fun k h1 e => h1 ((e ▸ k).type HEN4.out.1)
            have h3 := h2.keep f6 (fun b hb => by obtain ⟨cs, k⟩ := h2.type hb; exact hT k (by decide))
            have e1 : N - 1 = r.length := by omega
            refine ⟨by rw [← e1]; exact h3, fun y hy => ?_⟩
            have hy' : y ∈ s.L := by rw [HXR.out]; exact List.mem_cons_of_mem _ hy
            exact (HEN4.out.2.2 y hy').keep f6 (fun b h0 hb => by obtain ⟨cs, k⟩ := (HEN4.out.2.2 y hy').2 h0 b hb; exact hT k (by decide)))
          have hvf : ∀ b, b ∈ footOf (.slice (some ⟨g, o, none⟩) (N - 1) 0) → b ∈ footOf s.v := fun b hb => by rw [HV.out]; exact hb
          have HG6 := hid (HG4.out.turn (s' := ⟨s.h, s.fl, .slice (some ⟨g, o, none⟩) (N - 1) 0, r⟩) HS.out rfl (f6.mono (fun b _ h => .inl h)) HBS.out HIR.out (fun b hb => .inl (hvf b hb)))
          have HB6 := hid (HB4.out.keep f6 (fun e => absurd ((e ▸ HB4.out).type HEN4.out.1) (by decide)))
          have HF6 := hid f6
          have HVF := hid hvf
          clear f6 hNr hvf HBS HIR HEN4 HG4 HB4 c4 y4 hnc hcp
          generalize w4.setCell ⟨s.h, 4, none⟩ (.slice (some ⟨g, o, none⟩) (N - 1) 0) = w6 at *
          obtain ⟨u, hu⟩ : ∃ u : Value, u = (.slice (some ⟨g, o, none⟩) (N - 1) 0) := ⟨_, rfl⟩
          rw [← hu] at HG6 HVF
          clear hu
          have PS : Hid (∀ W, Fr (fun _ => False) w6 W → W.cell? ⟨t, 0, none⟩ = some (.int .i64 x.x.k.s) ∧ W.cell? ⟨t, 1, none⟩ = some (.int .i64 x.x.k.r) ∧ W.cell? ⟨t, 2, none⟩ = some (.int .i64 x.x.k.p) ∧ W.cell? ⟨t, 3, none⟩ = some (.int .i64 x.x.k.q) ∧ W.cell? ⟨p, 1, none⟩ = some (.int .i64 la'.s) ∧ W.cell? ⟨p, 2, none⟩ = some (.int .i64 la'.r) ∧ W.cell? ⟨p, 3, none⟩ = some (.int .i64 la'.p) ∧ W.cell? ⟨p, 4, none⟩ = some (.int .i64 la'.q)) := hid (fun W f => by
            have a := HB6.out.keep f (fun h => h)
            have b := HG6.out.blk.keep f (fun h => h)
            exact ⟨a.cell 0 rfl, a.cell 1 rfl, a.cell 2 rfl, a.cell 3 rfl, b.cell 1 rfl, b.cell 2 rfl, b.cell 3 rfl, b.cell 4 rfl⟩)
          have HKC := hid (fun W => keys_any x.x.k.s x.x.k.r x.x.k.p x.x.k.q la'.s la'.r la'.p la'.q W)
          rw [show kcmp x.x.k.s x.x.k.r x.x.k.p x.x.k.q la'.s la'.r la'.p la'.q = kc x.x.k la' from rfl] at HKC
          obtain ⟨C, hC⟩ : ∃ C, kc x.x.k la' = C := ⟨_, rfl⟩
          rw [hC] at HKC
          have HCC := hid hC
          clear hC
          refine wp_region_held_drew (S := fun W => W.cell? ⟨t, 0, none⟩ = some (.int .i64 x.x.k.s) ∧ W.cell? ⟨t, 1, none⟩ = some (.int .i64 x.x.k.r) ∧ W.cell? ⟨t, 2, none⟩ = some (.int .i64 x.x.k.p) ∧ W.cell? ⟨t, 3, none⟩ = some (.int .i64 x.x.k.q) ∧ W.cell? ⟨p, 1, none⟩ = some (.int .i64 la'.s) ∧ W.cell? ⟨p, 2, none⟩ = some (.int .i64 la'.r) ∧ W.cell? ⟨p, 3, none⟩ = some (.int .i64 la'.p) ∧ W.cell? ⟨p, 4, none⟩ = some (.int .i64 la'.q)) (by kernel_rfl) (PS.out _ (Fr.refl _ _).drew) (fun hHeld => ?_)
          refine wpAnyH_take (i := 0) (v := ?_) rfl (by kernel_rfl) (by kernel_rfl) (by kernel_rfl) (fun _ _ _ h => h) (Or.inl ⟨by rfl, ?_⟩) hHeld ?_
          rotate_left 1
          · (intro w hSw; (try dsimp only at hSw); go_simp <;> with_reducible rfl)
          try simp only [Act.put, List.setIfInBounds_toArray, List.set_cons_zero, List.set_cons_succ, List.getElem_toArray, List.getElem_cons_succ, List.getElem_cons_zero]
          refine wpAnyH_take (i := 1) (v := ?_) rfl (by kernel_rfl) (by kernel_rfl) (by kernel_rfl) (fun _ _ _ h => h) (Or.inl ⟨by rfl, ?_⟩) hHeld ?_
          rotate_left 1
          · (intro w hSw; (try dsimp only at hSw); go_simp <;> with_reducible rfl)
          try simp only [Act.put, List.setIfInBounds_toArray, List.set_cons_zero, List.set_cons_succ, List.getElem_toArray, List.getElem_cons_succ, List.getElem_cons_zero]
          refine wpAnyH_take (i := 2) (v := ?_) rfl (by kernel_rfl) (by kernel_rfl) (by kernel_rfl) (fun _ _ _ h => h) (Or.inl ⟨by rfl, ?_⟩) hHeld ?_
          rotate_left 1
          · (intro w hSw; (try dsimp only at hSw); go_simp <;> with_reducible rfl)
          try simp only [Act.put, List.setIfInBounds_toArray, List.set_cons_zero, List.set_cons_succ, List.getElem_toArray, List.getElem_cons_succ, List.getElem_cons_zero]
          refine wpAnyH_take (i := 3) (v := ?_) rfl (by kernel_rfl) (by kernel_rfl) (by kernel_rfl) (fun _ _ _ h => h) (Or.inl ⟨by rfl, ?_⟩) hHeld ?_
          rotate_left 1
          · (intro w hSw; (try dsimp only at hSw); go_simp <;> with_reducible rfl)
          try simp only [Act.put, List.setIfInBounds_toArray, List.set_cons_zero, List.set_cons_succ, List.getElem_toArray, List.getElem_cons_succ, List.getElem_cons_zero]
          refine wpAnyH_take (i := 4) (v := ?_) rfl (by kernel_rfl) (by kernel_rfl) (by kernel_rfl) (fun _ _ _ h => h) (Or.inl ⟨by rfl, ?_⟩) hHeld ?_
          rotate_left 1
          · (intro w hSw; (try dsimp only at hSw); go_simp <;> with_reducible rfl)
          try simp only [Act.put, List.setIfInBounds_toArray, List.set_cons_zero, List.set_cons_succ, List.getElem_toArray, List.getElem_cons_succ, List.getElem_cons_zero]
          refine wpAnyH_take (i := 5) (v := ?_) rfl (by kernel_rfl) (by kernel_rfl) (by kernel_rfl) (fun _ _ _ h => h) (Or.inl ⟨by rfl, ?_⟩) hHeld ?_
          rotate_left 1
          · (intro w hSw; (try dsimp only at hSw); go_simp <;> with_reducible rfl)
          try simp only [Act.put, List.setIfInBounds_toArray, List.set_cons_zero, List.set_cons_succ, List.getElem_toArray, List.getElem_cons_succ, List.getElem_cons_zero]
          refine wpAnyH_ready (rs := [6]) (by kernel_rfl) (by simp) ?_
          refine AllReadyH.cons rfl (fun K hK => ?_) AllReadyH.nil
          clear hHeld
          go_simp
          go_at_call 17
          refine (HKC.out _).mono ?_
          rintro e w7 ⟨rfl, hacc⟩
          refine hK.out _ _ (PS.out _ ((Fr.refl _ _).drew.trans hacc)) (fun hHeld => ?_)
          clear hK K
          try simp only [Act.put, List.setIfInBounds_toArray, List.set_cons_zero, List.set_cons_succ, List.getElem_toArray, List.getElem_cons_succ, List.getElem_cons_zero]
          have HF7 := hid ((Fr.refl (fun _ => False) w6).drew.trans hacc)
          clear hacc
          refine wpAnyH_take (i := 7) (v := ?_) rfl (by kernel_rfl) (by kernel_rfl) (by kernel_rfl) (fun _ _ _ h => h) (Or.inl ⟨by rfl, ?_⟩) hHeld ?_
          rotate_left 1
          · (intro w hSw; (try dsimp only at hSw); go_simp <;> with_reducible rfl)
          try simp only [Act.put, List.setIfInBounds_toArray, List.set_cons_zero, List.set_cons_succ, List.getElem_toArray, List.getElem_cons_succ, List.getElem_cons_zero]
          refine wpAnyH_done (by kernel_rfl) ?_ _
          clear hHeld
          clear PS HKC
          have HB7 := hid (HB6.out.keep HF7.out (fun h => h))
          have HG7 := hid (HG6.out.keep0 HF7.out)
          by_cases hC : 0 < C
          · have d1 : decide (0 < C) = true := decide_eq_true hC
            go_wp2_with (first | (refine wpList_load_part rfl 32 _ rfl aggKey t 0 rfl HB7.out #[.int .i64 x.x.k.s, .int .i64 x.x.k.r, .int .i64 x.x.k.p, .int .i64 x.x.k.q] rfl rfl ?_) | (refine wpList_store_part rfl 32 _ _ rfl aggKey p 1 rfl HG7.out.blk (.agg #[.int .i64 x.x.k.s, .int .i64 x.x.k.r, .int .i64 x.x.k.p, .int .i64 x.x.k.q]) rfl rfl (one_key x.x.k) (by show 1 + 4 ≤ 5; decide) (mgA m x.x.k) rfl ?_))
            intro w8 B8 f8 z8
            have HG8 := hid (HG7.out.told f8 B8)
            have HB8 := hid (HB7.out.keep f8 (fun e => absurd ((e ▸ HB7.out).type HG7.out.blk) (by decide)))
            have HF8 := hid f8
            clear B8 f8 z8
            go_wp2_with (first | (refine wpList_load_part rfl 46 _ rfl aggItem t 0 rfl HB8.out (x.x.a x.v) rfl rfl ?_) | (refine wpList_build_one rfl 39 _ rfl Try.underlying39 aggItem (by decide) (by decide) zeroItem (x.x.a x.v) rfl rfl ?_))
            intro z9 w9 hz9 B9 f9 _
            have HF9 := hid f9
            have hf29 : Fr (fun b => b = s.h ∨ b = p) w2 w9 := (((HF4.out.mono (fun _ _ h => h.elim)).trans (HF6.out.mono (fun _ _ h => .inl h))).trans (HF7.out.mono (fun _ _ h => h.elim))).trans ((HF8.out.mono (fun _ _ h => .inr h)).trans (HF9.out.mono (fun _ _ h => h.elim)))
            have HF29 := hid hf29
            have HT2 : Hid (∀ {b : Nat} {cs : Array Value} {t' : TypeId}, Blk w2 b cs t' → t' ≠ 76 → t' ≠ 71 → ¬ (b = s.h ∨ b = p)) := hid (fun k h1 h2 e => by
              rcases e with e | e
              · exact h1 ((e ▸ k).type HEN2.out.1)
              · exact h2 ((e ▸ k).type HG2.out.blk))
            have HIS9 := hid (HIS2.out.keep hf29 (fun b hb => by obtain ⟨cs, k⟩ := HIS2.out.1.type hb; exact HT2.out k (by decide) (by decide)) (fun b hb => by obtain ⟨cs, k⟩ := HIS2.out.body hb; exact HT2.out k (by decide) (by decide)))
            have HBA9 := hid (HBA.out.keep hf29 (fun b h0 hb => by obtain ⟨cs, k⟩ := HBA.out.2 h0 b hb; exact HT2.out k (by decide) (by decide)))
            have HG9 := hid (HG8.out.keep0 f9)
            have HB9 := hid B9
            have HCT : Hid (cntS (abs F') = cntS (abs (fun k => if k = j then some ⟨s.h, s.fl, u, r⟩ else F' k)) + 1) := hid (by rw [abs_up]; exact cntS_up HAJ.out (HG2.out.dom j s HS.out).1 (HG2.out.dom j s HS.out).2)
            have HOL : Hid (out.length < 100000) := hid (by have h1 := HLN.out; have h2 := HC.out; omega)
            obtain ⟨i0, hi0, i1, i2, i3⟩ := itemI
            clear hf29 f9 hz9 B9
            go_wp2_with (at_builtin; refine wpList_append_orow rfl (.tmp 52) (.tmp 54) 39 rfl 46 i0 _ 21 184 Try.underlying39 hi0 i1 i2 i3 rfl (by decide) u5 out.length (out.flatMap It.l) rfl HIS9.out.1 ⟨z9, 0, none⟩ 1 1 (x.x.l x.v) rfl rfl (blk_src HB9.out _ rfl) (x.x.one (slice_one w9 HBA9.out.1.1)) (by decide) (by have := HOL.out; unfold maxLen; omega) (by have := HOL.out; omega) ?_)
            intro u9 w10 r10 f10 g10
            have HF10 := hid f10
            have hfp : ∀ b, mfp p m F' b → b < w.heap.size := fun b hb => HG.out.live b (HCM.out.fp hb)
            have hcm2 := HCM.out.step HS.out HXR.out HVF.out
            have HCM2 := hid hcm2
            have hfp2 : ∀ b, mfp p m (fun k => if k = j then some ⟨s.h, s.fl, u, r⟩ else F' k) b → b < w.heap.size := fun b hb => HG.out.live b (hcm2.fp hb)
            have HG10 := hid (HG9.out.keep f10 (fun b hb e => by have h1 := hfp2 b hb; have h2 := HAB.out b e; omega))
            have HI10 : Hid (Its w10 u9 (out ++ [x])) := hid (by
              refine ⟨by rw [List.flatMap_append, List.length_append]; simpa [It.l] using r10, fun y hy => ?_⟩
              have hT : ∀ b, (∃ cs, Blk w9 b cs 5) → ¬ b ∈ footOf u5 := fun b ⟨cs, k⟩ hb => by
                obtain ⟨ds, k'⟩ := HIS9.out.1.type hb
                exact absurd (k.type k') (by decide)
              rcases List.mem_append.1 hy with hy | hy
              · exact (HIS9.out.2 y hy).keep f10 (fun b h0 hb => hT b ((HIS9.out.2 y hy).2 h0 b hb))
              · simp only [List.mem_singleton] at hy
                subst hy
                exact HBA9.out.keep f10 (fun b h0 hb => hT b (HBA9.out.2 h0 b hb)))
            have HAB10 : Hid (∀ b, b ∈ footOf u9 → w.heap.size ≤ b) := hid (fun b hb => by
              rcases g10 b hb with h | h
              · exact HAB.out b h
              · have h1 := HF2.out.size
                have h2 := HF29.out.size
                omega)
            have HIN10 : Hid (∀ y ∈ out ++ [x], ∃ k s, F k = some s ∧ y ∈ s.L) := hid (fun y hy => by
              rcases List.mem_append.1 hy with hy | hy
              · exact HIN.out y hy
              · simp only [List.mem_singleton] at hy
                subst hy
                obtain ⟨s0, h1, _, _, _, h5⟩ := HCM.out.one j s HS.out
                exact ⟨j, s0, h1, h5 y (by rw [HXR.out]; exact List.mem_cons_self)⟩)
            have HFW : Hid (Fr (tellW p F) w w10) := hid ((HF2.out.step HF29.out (fun b hb e => by
              rcases e with e | e
              · obtain ⟨s0, h1, h2, _⟩ := HCM.out.one j s HS.out
                exact .inr ⟨j, s0, h1, by omega⟩
              · exact .inl e)).step f10 (fun b hb e => by have h2 := HAB.out b e; omega))
            have HPC : Hid (0 < C) := hid hC
            clear r10 f10 g10 hfp hfp2 hcm2
            go_wp2_with fail
            with_reducible refine (first_mg HG10.out).mono ?_
            rintro e w11 ⟨rfl, f11⟩
            have HG11 := hid (HG10.out.keep0 f11)
            have HI11 := hid (HI10.out.keep f11 (fun _ _ h => h) (fun _ _ h => h))
            have HF11 := hid (HFW.out.trans (f11.mono (fun _ _ h => h.elim)))
            clear f11
            go_wp2_with fail
            go_roundg (cntS (abs (fun k => if k = j then some ⟨s.h, s.fl, u, r⟩ else F' k)))
            case rel => exact ⟨i + 1, _, x.x.k, out ++ [x], rfl, by have := HLN.out; have := HCT.out; rw [List.length_append, List.length_singleton]; omega, rfl, by
              show (match nextS may (itS may i ⟨abs F, la, []⟩) with | none => itS may i ⟨abs F, la, []⟩ | some s => s) = _
              rw [HIT.out, HNX.out, abs_up]
              show takeS _ j s.fl x.x (r.map (·.x)) = _
              unfold takeS
              rw [HCC.out, if_pos HPC.out, if_pos HPC.out, List.map_append]; rfl, HG11.out, HCM2.out, HI11.out, HAB10.out, HIN10.out, HF11.out⟩
            case measure => have := HCT.out; omega
          · have d1 : decide (0 < C) = false := decide_eq_false hC
            have HNC := hid hC
            go_wp2_with fail
            with_reducible refine (first_mg HG7.out).mono ?_
            rintro e w8 ⟨rfl, f8⟩
            have HG8 := hid (HG7.out.keep0 f8)
            have HF8 := hid f8
            clear f8
            have HCT : Hid (cntS (abs F') = cntS (abs (fun k => if k = j then some ⟨s.h, s.fl, u, r⟩ else F' k)) + 1) := hid (by rw [abs_up]; exact cntS_up HAJ.out (HG2.out.dom j s HS.out).1 (HG2.out.dom j s HS.out).2)
            have hf28 : Fr (· = s.h) w2 w8 := ((HF4.out.mono (fun _ _ h => h.elim)).trans HF6.out).trans ((HF7.out.trans HF8.out).mono (fun _ _ h => h.elim))
            have HF28 := hid hf28
            have HT2 : Hid (∀ {b : Nat} {cs : Array Value} {t' : TypeId}, Blk w2 b cs t' → t' ≠ 76 → ¬ b = s.h) := hid (fun k h1 e => h1 ((e ▸ k).type HEN2.out.1))
            have HIS8 := hid (HIS2.out.keep hf28 (fun b hb => by obtain ⟨cs, k⟩ := HIS2.out.1.type hb; exact HT2.out k (by decide)) (fun b hb => by obtain ⟨cs, k⟩ := HIS2.out.body hb; exact HT2.out k (by decide)))
            have HFW := hid (HF2.out.step hf28 (fun b hb e => by have e1 : b = s.h := e; obtain ⟨s0, h1, h2, _⟩ := HCM.out.one j s HS.out; exact .inr ⟨j, s0, h1, by omega⟩))
            clear hf28
            go_wp2_with fail
            go_roundg (cntS (abs (fun k => if k = j then some ⟨s.h, s.fl, u, r⟩ else F' k)))
            case rel => exact ⟨i + 1, _, la', out, rfl, by have := HLN.out; have := HCT.out; omega, rfl, by
              show (match nextS may (itS may i ⟨abs F, la, []⟩) with | none => itS may i ⟨abs F, la, []⟩ | some s => s) = _
              rw [HIT.out, HNX.out, abs_up]
              show takeS _ j s.fl x.x (r.map (·.x)) = _
              unfold takeS
              rw [HCC.out, if_neg (by have := HNC.out; omega), if_neg (by have := HNC.out; omega)], HG8.out, HCM.out.step HS.out HXR.out HVF.out, HIS8.out, HAB.out, HIN.out, HFW.out⟩
            case measure => have := HCT.out; omega
end
end Go.Proofs.Ytfkffjjkmckpnaa
