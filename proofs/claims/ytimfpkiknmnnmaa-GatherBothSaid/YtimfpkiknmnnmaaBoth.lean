/-
  THE WALK OF THE LAW GatherBoth. Conditions: none.
-/
import Derived.Test.YtimfpkiknmnnmaaBothLaw
import Derived.Deep.RegionWith
import Derived.Deep.CutRange
import Derived.Deep.QuietTactic
import Derived.BigQuiet
namespace Go.Proofs.Ytimfpkiknmnnmaa
open Go.RowKit

def z243 : Array Value := Array.replicate 243 (.int .i64 0)
theorem infoSaid : (Try.prog.info? 45).map (fun i => i.zero) = some (some (.agg z243)) := by kernel_rfl
theorem zero_said (W : World) : (zeroValue 45).run Try.prog W = .ok (.agg z243) W := by
  have h := infoSaid
  cases hi : Try.prog.info? 45 with
  | none => rw [hi] at h; simp at h
  | some i =>
    rw [hi] at h
    simp only [Option.map_some, Option.some.injEq] at h
    simp [zeroValue, typeInfo, hi, h]

/-- Block A: the last word of a that b has heard. -/
def Said (w : World) (A : Nat) (S : Nat → Nat → J3) : Prop := ∃ cs, Blk w A cs 45 ∧ cs.size = 243 ∧ ∀ a b, a < 9 → b < 9 → cs[a * 27 + b * 3]? = some (.int .i64 (S a b).1) ∧ cs[a * 27 + b * 3 + 1]? = some (.int .i64 (S a b).2.1) ∧ cs[a * 27 + b * 3 + 2]? = some (.int .i64 (S a b).2.2)
theorem Said.keep {F : Nat → Prop} {w w' : World} {A : Nat} {S : Nat → Nat → J3} (h : Said w A S) (f : Fr F w w') (hn : ¬ F A) : Said w' A S := by
  obtain ⟨cs, h1, h2⟩ := h; exact ⟨cs, h1.keep f hn, h2⟩
theorem Said.at {w : World} {A : Nat} {S : Nat → Nat → J3} (h : Said w A S) (a b : Nat) (ha : a < 9) (hb : b < 9) : w.cell? ⟨A, a * 27 + b * 3, none⟩ = some (.int .i64 (S a b).1) ∧ w.cell? ⟨A, a * 27 + b * 3 + 1, none⟩ = some (.int .i64 (S a b).2.1) ∧ w.cell? ⟨A, a * 27 + b * 3 + 2, none⟩ = some (.int .i64 (S a b).2.2) := by
  obtain ⟨cs, h1, _, h3⟩ := h
  obtain ⟨q0, q1, q2⟩ := h3 a b ha hb
  exact ⟨h1.cell _ q0, h1.cell _ q1, h1.cell _ q2⟩
theorem Said.free {w : World} {A : Nat} {S : Nat → Nat → J3} (h : Said w A S) (k : Nat) : w.frozen? ⟨A, k, none⟩ = false := by obtain ⟨cs, h1, _⟩ := h; exact h1.free k
theorem Said.set {w : World} {A : Nat} {S : Nat → Nat → J3} (h : Said w A S) (a b : Nat) (ha : a < 9) (hb : b < 9) (j : J3) :
    Said (((w.setCell ⟨A, a * 27 + b * 3, none⟩ (.int .i64 j.1)).setCell ⟨A, a * 27 + b * 3 + 1, none⟩ (.int .i64 j.2.1)).setCell ⟨A, a * 27 + b * 3 + 2, none⟩ (.int .i64 j.2.2)) A (say S a b j) := by
  obtain ⟨cs, h1, h2, h3⟩ := h
  refine ⟨_, ((h1.set (a * 27 + b * 3) _).set (a * 27 + b * 3 + 1) _).set (a * 27 + b * 3 + 2) _, by simpa using h2, fun x y hx hy => ?_⟩
  obtain ⟨q0, q1, q2⟩ := h3 x y hx hy
  unfold say
  by_cases hxy : x = a ∧ y = b
  · obtain ⟨rfl, rfl⟩ := hxy
    rw [if_pos ⟨rfl, rfl⟩]
    refine ⟨?_, ?_, ?_⟩ <;> (simp [Array.getElem?_setIfInBounds, h2]; try omega)
  · rw [if_neg hxy]
    refine ⟨?_, ?_, ?_⟩ <;> (simp only [Array.getElem?_setIfInBounds]; rw [if_neg (by omega), if_neg (by omega), if_neg (by omega)]; assumption)
theorem Said.new (w : World) : Said (w.alloc (.cells z243 45)) w.heap.size (fun _ _ => (0, 0, 0)) :=
  ⟨z243, Blk.new w z243 _, by simp [z243], fun a b ha hb => by
    refine ⟨?_, ?_, ?_⟩ <;> (unfold z243; rw [Array.getElem?_replicate, if_pos (by omega)])⟩

theorem Eight.keepB {w w' : World} {A B n : Nat} {g b : Nat → Nat} {L : Nat → List J3} {T : Nat → Int} (h : Eight w A g b n L T) (f : Fr (· = B) w w') (hA : A ≠ B) (hm : ∀ m, 1 ≤ m → m < n → g m ≠ B ∧ b m ≠ B) : Eight w' A g b n L T :=
  ⟨h.arr.keep f hA, fun m h1 h2 => (h.gs m h1 h2).keep f (hm m h1 h2).1 (hm m h1 h2).2, h.ap, h.ar⟩
theorem fr_cell {W w5 : World} (h : Fr (fun _ => False) W w5) (p : Addr) (hp : p.block < W.heap.size) : w5.cell? p = W.cell? p := World.cell?_of_block (h.block p.block hp (fun h => h))
theorem fr_frozen {W w5 : World} (h : Fr (fun _ => False) W w5) (p : Addr) (hp : p.block < W.heap.size) : w5.frozen? p = W.frozen? p := by
  have := h.block p.block hp (fun h => h)
  unfold World.frozen?
  rw [this]
/-- What the loops keep. -/
def Inv (w wq : World) (A B : Nat) (g b : Nat → Nat) : Prop := ∃ (L : Nat → List J3) (T : Nat → Int) (S : Nat → Nat → J3), Eight wq A g b 9 L T ∧ (∀ m, 1 ≤ m → m < 9 → ((L m).map (·.1)).Nodup) ∧ Said wq B S ∧ SaidOk L S ∧ Fr (fun _ => False) w wq

theorem Eight.add {wr w6 : World} {A n gn bn : Nat} {g b : Nat → Nat} (h : Eight wr A g b n (fun _ => []) (fun m => m)) (f6 : Fr (fun _ => False) wr w6) (hG : GS w6 gn bn n n n []) (hg : wr.heap.size ≤ gn) (hb : wr.heap.size ≤ bn) (h1 : 1 ≤ n) (hn : n < 9) :
    Eight (w6.setCell ⟨A, n, none⟩ (.pointer (some ⟨gn, 0, none⟩))) A (fun m => if m = n then gn else g m) (fun m => if m = n then bn else b m) (n + 1) (fun _ => []) (fun m => m) := by
  have fA : Fr (· = A) w6 (w6.setCell ⟨A, n, none⟩ (.pointer (some ⟨gn, 0, none⟩))) := (Fr.refl _ w6).set1 n _
  obtain ⟨cs, p1, p2, p3, p4⟩ := h.arr
  have hA : A < wr.heap.size := p1.lt
  have p6 := p1.keep f6 (fun h => h)
  have hlt : ∀ m, 1 ≤ m → m < n → g m < wr.heap.size ∧ b m < wr.heap.size := fun m m1 m2 => ⟨(h.gs m m1 m2).blk.lt, (h.gs m m1 m2).map.lt⟩
  refine ⟨⟨_, p6.set n _, by simpa using p2, fun m hm => ?_, fun m m1 m2 => ?_⟩, fun m m1 m2 => ?_, fun m k m1 m2 k1 k2 hmk => ?_, fun m m1 m2 => ?_⟩
  · simp only [Array.getElem?_setIfInBounds]
    split
    · rw [if_pos (by omega)]; exact ⟨_, rfl⟩
    · exact p3 m hm
  · simp only [Array.getElem?_setIfInBounds]
    by_cases e : m = n
    · subst e; rw [if_pos rfl, if_pos (by omega)]; simp
    · rw [if_neg (fun h => e h.symm), p4 m m1 (by omega)]; simp [e]
  · by_cases e : m = n
    · subst e; simp only [if_true]; exact hG.keep fA (by omega) (by omega)
    · simp only [e, if_false]
      obtain ⟨a1, a2⟩ := h.ar m m1 (by omega)
      exact ((h.gs m m1 (by omega)).keep0 f6).keep fA a1 a2
  · have hne := hG.ne
    by_cases e : m = n
    · subst e
      have hk := hlt k k1 (by omega)
      have : ¬ k = m := fun h => hmk h.symm
      simp only [if_true, this, if_false]
      omega
    · by_cases e2 : k = n
      · subst e2
        have hk := hlt m m1 (by omega)
        simp only [e, if_true, if_false]
        omega
      · simp only [e, e2, if_false]
        exact h.ap m k m1 (by omega) k1 (by omega) hmk
  · by_cases e : m = n
    · subst e; simp only [if_true]; omega
    · simp only [e, if_false]; exact h.ar m m1 (by omega)

theorem Blk.other3 {w : World} {b : Nat} {cs : Array Value} {t : TypeId} {p : Nat} (h : Blk w b cs t) (hp : b ≠ p) (x y z : Value) : Blk (((w.setCell ⟨p, 0, none⟩ x).setCell ⟨p, 1, none⟩ y).setCell ⟨p, 2, none⟩ z) b cs t :=
  ((h.other (p := ⟨p, 0, none⟩) hp x).other (p := ⟨p, 1, none⟩) hp y).other (p := ⟨p, 2, none⟩) hp z
theorem Blk.set3 {w : World} {b : Nat} {t : TypeId} (h : Blk w b #[.int .i64 0, .int .i64 0, .int .i64 0] t) (x y z : Value) : Blk (((w.setCell ⟨b, 0, none⟩ x).setCell ⟨b, 1, none⟩ y).setCell ⟨b, 2, none⟩ z) b #[x, y, z] t :=
  ((h.set' 0 x rfl).set' 1 y rfl).set' 2 z rfl
theorem Blk.new1 (w : World) (o : Obj) (cs : Array Value) (t : TypeId) : Blk ((w.alloc o).alloc (.cells cs t)) (w.heap.size + 1) cs t := by
  have h := Blk.new (w.alloc o) cs t
  rw [World.size_alloc] at h; exact h
theorem Fr.drewN {S : Nat → Prop} {a w : World} (h : Fr S a w) (n : Nat) : Fr S a (w.drewN n) := ⟨h.os, h.tape, h.output, h.size, h.block⟩
/-- A new variable's block. -/
def zj : Array Value := #[.int .i64 0, .int .i64 0, .int .i64 0]
def Fresh (wL w : World) (z : Nat) : Prop := Blk w z #[.int .i64 0, .int .i64 0, .int .i64 0] 34 ∧ wL.heap.size ≤ z
theorem Fresh.k1 {wL X w5 : World} (hacc : Fr (fun _ => False) wL X) (h5 : Fr (fun _ => False) (X.alloc (.cells #[.int .i64 0, .int .i64 0, .int .i64 0] 34)) w5) : Fresh wL w5 X.heap.size := ⟨(Blk.new X _ _).keep h5 (fun h => h), hacc.size⟩
theorem Fresh.k2a {wL X w5 : World} {o : Obj} (hacc : Fr (fun _ => False) wL X) (h5 : Fr (fun _ => False) ((X.alloc (.cells #[.int .i64 0, .int .i64 0, .int .i64 0] 34)).alloc o) w5) : Fresh wL w5 X.heap.size := ⟨((Blk.new X _ _).alloc o).keep h5 (fun h => h), hacc.size⟩
theorem Fresh.k2b {wL X w5 : World} {o : Obj} (hacc : Fr (fun _ => False) wL X) (h5 : Fr (fun _ => False) ((X.alloc o).alloc (.cells #[.int .i64 0, .int .i64 0, .int .i64 0] 34)) w5) : Fresh wL w5 (X.heap.size + 1) :=
  ⟨by have := (Blk.new (X.alloc o) #[.int .i64 0, .int .i64 0, .int .i64 0] 34).keep h5 (fun h => h); rw [World.size_alloc] at this; exact this, by have := hacc.size; omega⟩
theorem Fresh.k1d {wL X w5 : World} (hacc : Fr (fun _ => False) wL X) (h5 : Fr (fun _ => False) (X.alloc (.cells #[.int .i64 0, .int .i64 0, .int .i64 0] 34)).drew w5) : Fresh wL w5 X.heap.size := ⟨(Blk.new X _ _).drew.keep h5 (fun h => h), hacc.size⟩
theorem Fresh.k2ad {wL X w5 : World} {o : Obj} (hacc : Fr (fun _ => False) wL X) (h5 : Fr (fun _ => False) ((X.alloc (.cells #[.int .i64 0, .int .i64 0, .int .i64 0] 34)).alloc o).drew w5) : Fresh wL w5 X.heap.size := ⟨((Blk.new X _ _).alloc o).drew.keep h5 (fun h => h), hacc.size⟩
theorem Fresh.k2bd {wL X w5 : World} {o : Obj} (hacc : Fr (fun _ => False) wL X) (h5 : Fr (fun _ => False) ((X.alloc o).alloc (.cells #[.int .i64 0, .int .i64 0, .int .i64 0] 34)).drew w5) : Fresh wL w5 (X.heap.size + 1) :=
  ⟨by have := (Blk.new (X.alloc o) #[.int .i64 0, .int .i64 0, .int .i64 0] 34).drew.keep h5 (fun h => h); rw [World.size_alloc] at this; exact this, by have := hacc.size; omega⟩
theorem Fresh.keep {wL X w5 : World} {z : Nat} (k : Fresh wL X z) (h5 : Fr (fun _ => False) X w5) : Fresh wL w5 z := ⟨k.1.keep h5 (fun h => h), k.2⟩
theorem Fresh.keep1 {wL X w5 : World} {z : Nat} {o : Obj} (k : Fresh wL X z) (h5 : Fr (fun _ => False) (X.alloc o) w5) : Fresh wL w5 z := ⟨(k.1.alloc o).keep h5 (fun h => h), k.2⟩
theorem Fresh.ne {wL X : World} {z : Nat} (k : Fresh wL X z) : z ≠ X.heap.size ∧ X.heap.size ≠ z := by have := k.1.lt; omega
theorem Fresh.far {wL X : World} {z A : Nat} (k : Fresh wL X z) (h : A < wL.heap.size) : z ≠ A ∧ A ≠ z := by have := k.2; omega
theorem Fresh.cells {wL X : World} {z : Nat} (k : Fresh wL X z) : X.cell? ⟨z, 0, none⟩ = some (.int .i64 0) ∧ X.cell? ⟨z, 1, none⟩ = some (.int .i64 0) ∧ X.cell? ⟨z, 2, none⟩ = some (.int .i64 0) ∧ X.frozen? ⟨z, 0, none⟩ = false ∧ X.frozen? ⟨z, 1, none⟩ = false ∧ X.frozen? ⟨z, 2, none⟩ = false :=
  ⟨k.1.cell 0 rfl, k.1.cell 1 rfl, k.1.cell 2 rfl, k.1.free 0, k.1.free 1, k.1.free 2⟩
theorem Fresh.cells' {wL X : World} {z : Nat} (k : Fresh wL X z) (o : Obj) : (X.alloc o).cell? ⟨z, 0, none⟩ = some (.int .i64 0) ∧ (X.alloc o).cell? ⟨z, 1, none⟩ = some (.int .i64 0) ∧ (X.alloc o).cell? ⟨z, 2, none⟩ = some (.int .i64 0) ∧ (X.alloc o).frozen? ⟨z, 0, none⟩ = false ∧ (X.alloc o).frozen? ⟨z, 1, none⟩ = false ∧ (X.alloc o).frozen? ⟨z, 2, none⟩ = false :=
  ⟨(k.1.alloc o).cell 0 rfl, (k.1.alloc o).cell 1 rfl, (k.1.alloc o).cell 2 rfl, (k.1.alloc o).free 0, (k.1.alloc o).free 1, (k.1.alloc o).free 2⟩

set_option maxRecDepth 100000 in
set_option maxHeartbeats 40000000 in
theorem both_walk (v0 : Value) (w : World) (hw0 : ∃ K, IsPairs w v0 K) :
    Calls Try.prog 5 #[v0] w fun e w' => e = .returned (.bool true) ∧ Below w.heap.size w w' := by
  obtain ⟨K, ao, cap, rfl, hlc, hcm, hk⟩ := hw0
  obtain ⟨m, hm⟩ : ∃ m, m = K.length := ⟨_, rfl⟩
  have HK := hid hk
  have HM := hid hm
  rw [← hm] at hlc ⊢
  have hm9 : m ≤ 9223372036854775807 := by unfold maxLen at hcm; omega
  clear hk hm hcm
  go_enter Try.func5, Try.ntmps5
  go_wp2_with fail
  refine (works_any w).mono ?_
  rintro e w1 ⟨rfl, f1⟩
  go_wp2_with fail
  generalize hW : w1.alloc (.cells #[.pointer none, .pointer none, .pointer none, .pointer none, .pointer none, .pointer none, .pointer none, .pointer none, .pointer none] 43) = w2 at *
  have hA0 : PArr w2 w1.heap.size (fun _ => 0) 1 := by
    rw [← hW]; exact ⟨_, Blk.new w1 _ _, rfl, fun m hm => ⟨.pointer none, by
      have : m = 0 ∨ m = 1 ∨ m = 2 ∨ m = 3 ∨ m = 4 ∨ m = 5 ∨ m = 6 ∨ m = 7 ∨ m = 8 := by omega
      rcases this with rfl | rfl | rfl | rfl | rfl | rfl | rfl | rfl | rfl <;> rfl⟩, fun m h1 h2 => by omega⟩
  have f2 : Fr (fun _ => False) w w2 := by rw [← hW]; exact f1.alloc _
  have hAw : w.heap.size ≤ w1.heap.size := f1.size
  clear hW f1
  generalize w1.heap.size = A at *
  have HAW := hid hAw
  have HA0 := hid hA0
  clear hAw hA0
  go_loopw [4] (fun i wr => ∃ n : Nat, ∃ g b : Nat → Nat, 1 ≤ n ∧ n ≤ 9 ∧ i = .int .i64 n ∧ Eight wr A g b n (fun _ => []) (fun m => m) ∧ (∀ m, 1 ≤ m → m < n → w.heap.size ≤ g m ∧ w.heap.size ≤ b m) ∧ Fr (fun _ => False) w wr) (fun i _ => 9 - (intOf i).toNat)
  case atStart => exact ⟨1, fun _ => 0, fun _ => 0, by omega, by omega, rfl, ⟨HA0.out, fun m h1 h2 => by omega, fun m k h1 h2 => by omega, fun m h1 h2 => by omega⟩, fun m h1 h2 => by omega, f2⟩
  case round =>
    obtain ⟨n, g, b, hn, hn9, rfl, hE, hab, hf⟩ := hrel
    have HE := hid hE
    have HAB := hid hab
    clear hE hab
    by_cases hlt : n ≤ 8
    · go_wp2_with fail
      refine (new_any n n wr (by omega) (by omega) (by omega) (by omega)).mono ?_
      rintro e w6 ⟨gn, bn, rfl, hG, f6, hg, hb⟩
      have hE6 := HE.out.keep f6
      obtain ⟨cs, p1, p2, p3, p4⟩ := hE6.arr
      obtain ⟨u, hu⟩ := p3 n (by omega)
      have q0 := p1.cell _ hu
      have y0 := p1.free n
      have HF := hid (hf.trans f6)
      have HNX := hid (HE.out.add f6 hG hg hb hn (by omega))
      have HLO : Hid (w.heap.size ≤ gn ∧ w.heap.size ≤ bn) := hid (by have := hf.size; omega)
      clear hE6 p1 p2 p3 p4 hG hu
      go_wp2_with fail
      go_roundw
      case rel => exact ⟨n + 1, _, _, by omega, by omega, by go_num, HNX.out, fun m m1 m2 => by
        by_cases e : m = n
        · simp only [e, if_true]; exact HLO.out
        · simp only [e, if_false]; exact HAB.out m m1 (by omega), HF.out.setNew HAW.out _⟩
      case measure => simp [intOf]; omega
    · have hn9' : n = 9 := by omega
      subst hn9'
      rw [show ((9 : Nat) : Int) = 9 from rfl]
      have hzs := zero_said
      go_wp2_with fail
      clear hzs
      have fB : Fr (fun _ => False) wr (wr.alloc (.cells z243 45)) := (Fr.refl _ wr).alloc _
      have hI0 : Inv w (wr.alloc (.cells z243 45)) A wr.heap.size g b := ⟨_, _, _, HE.out.keep fB, fun m _ _ => by simp, Said.new wr, fun x y _ _ _ _ => .inl rfl, hf.trans fB⟩
      have HBB : Hid (A < wr.heap.size ∧ w.heap.size ≤ A ∧ w.heap.size ≤ wr.heap.size ∧ ∀ m, 1 ≤ m → m < 9 → g m < wr.heap.size ∧ b m < wr.heap.size ∧ w.heap.size ≤ g m ∧ w.heap.size ≤ b m) := hid (by
        obtain ⟨cs, p1, _⟩ := HE.out.arr
        refine ⟨p1.lt, HAW.out, hf.size, fun m m1 m2 => ?_⟩
        have := HE.out.gs m m1 m2
        exact ⟨this.blk.lt, this.map.lt, (HAB.out m m1 m2).1, (HAB.out m m1 m2).2⟩)
      have HI0 := hid hI0
      clear hI0 fB hf HE HAB HA0 f2
      generalize wr.alloc (.cells z243 45) = w3 at *
      generalize wr.heap.size = B at *
      go_loopw [8] (fun i wq => ∃ k : Nat, k ≤ m ∧ i = .int .i64 k ∧ Inv w wq A B g b) (fun i _ => m - (intOf i).toNat)
      case atStart => exact ⟨0, by omega, rfl, HI0.out⟩
      case round =>
        obtain ⟨k, hk, rfl, hI⟩ := hrel
        have HI := hid hI
        clear hI
        by_cases hlt : k < m ∧ k < 300
        · obtain ⟨hlt1, hlt2⟩ := hlt
          obtain ⟨hwf, bb, off, rfl, hbb, hcells⟩ := HK.out k (by rw [← HM.out]; exact hlt1)
          obtain ⟨j, hj⟩ : ∃ j, j = K.getD k p0 := ⟨_, rfl⟩
          rw [← hj] at hcells hwf
          have HCE := hid hcells
          have c0 : wr.cell? ⟨bb, off + k * 2, none⟩ = some (.int .i64 j.1) := by obtain ⟨_, _, _, _, _, _, _, hf⟩ := HI.out; exact cell_fr hf (hcells 0 (by decide))
          have HWF := hid hwf
          clear hcells hj hwf
          go_wp2_with fail
          refine (bring_any j.1 8 wr HWF.out.1.lo HWF.out.1.hi (by decide) (by decide)).mono ?_
          rintro e w1' ⟨rfl, rfl⟩
          have hb := bring_bd j.1 8 (by decide)
          generalize bring j.1 8 = y at *
          obtain ⟨a, ha⟩ : ∃ a : Nat, (a : Int) = 1 + y := ⟨(1 + y).toNat, by omega⟩
          have hwr : wrap64 (1 + y) = (a : Int) := by rw [ha]; simp only [wrap64]; omega
          have ha1 : 1 ≤ a := by omega
          have ha9 : a < 9 := by omega
          clear hb ha c0
          go_wp2_with fail
          rw [hwr]
          clear hwr
          go_loopw [10] (fun i wq => ∃ n : Nat, 1 ≤ n ∧ n ≤ 9 ∧ i = .int .i64 n ∧ Inv w wq A B g b) (fun i _ => 9 - (intOf i).toNat)
          case atStart => exact ⟨1, by omega, by omega, rfl, HI.out⟩
          case round =>
            obtain ⟨n, hn1, hn9, rfl, hI⟩ := hrel
            have HI := hid hI
            clear hI
            by_cases hlt : n ≤ 8
            · have c1 : wr.cell? ⟨bb, off + k * 2 + 1, none⟩ = some (.int .i64 j.2) := by obtain ⟨_, _, _, _, _, _, _, hf⟩ := HI.out; exact cell_fr hf (HCE.out 1 (by decide))
              by_cases hna : n = a
              · have hnb : ((n : Int) != (a : Int)) = false := by simp [hna]
                clear hna
                go_wp2_with fail
                go_roundw
                case rel => exact ⟨n + 1, by omega, by omega, by go_num, HI.out⟩
                case measure => simp [intOf]; omega
              · have hnb : ((n : Int) != (a : Int)) = true := by simp; omega
                have hn63 : ((n : Int)).toNat = n := by simp
                obtain ⟨t, ht⟩ : ∃ t, (bits .and .i64 (j.2 / 2 ^ n) 1 == 1) = t := ⟨_, rfl⟩
                cases t with
                | false =>
                  go_wp2_with fail
                  go_roundw
                  case rel => exact ⟨n + 1, by omega, by omega, by go_num, HI.out⟩
                  case measure => simp [intOf]; omega
                | true =>
                  obtain ⟨L, T, S, hE, hND, hS, hSO, hf⟩ := HI.out
                  have p0 := hE.arr.at a ha1 ha9
                  have HE := hid hE
                  have HND := hid hND
                  have HS := hid hS
                  have HSO := hid hSO
                  have HF := hid hf
                  clear hE hND hS hSO hf
                  go_wp2_with fail
                  refine (own_c ((crew (a : Int) (L a) : Nat) : Int) _ (HE.out.gs a ha1 ha9) rfl).mono ?_
                  rintro e w4 ⟨rfl, hGa, f4⟩
                  have hok := own_ok hGa
                  have HE4 := hid (HE.out.keep f4)
                  have HS4 := hid (HS.out.keep f4 (fun h => h))
                  have HF4 := hid (HF.out.trans f4)
                  obtain ⟨X, hX⟩ : ∃ X, X = crew (a : Int) (L a) := ⟨_, rfl⟩
                  rw [← hX] at hok ⊢
                  have HOK := hid hok
                  clear hok hGa f4 hX p0 HE HS HF c1
                  go_wp2_with fail
                  have hz := Blk.new w4 #[.int .i64 (a : Int), .int .i64 (X : Int), .int .i64 (a : Int)] 34
                  have f45 : Fr (fun _ => False) w4 (w4.alloc (.cells #[.int .i64 (a : Int), .int .i64 (X : Int), .int .i64 (a : Int)] 34)) := (Fr.refl _ w4).alloc _
                  have HZN : Hid (A ≠ w4.heap.size ∧ B ≠ w4.heap.size ∧ g n ≠ w4.heap.size ∧ b n ≠ w4.heap.size) := hid (by
                    obtain ⟨cs, q, _⟩ := HE4.out.arr
                    obtain ⟨cs2, q2, _⟩ := HS4.out
                    have hq := HE4.out.gs n hn1 (by omega)
                    have := hq.blk.lt; have := hq.map.lt; have := q.lt; have := q2.lt
                    omega)
                  have HE5 := hid (HE4.out.keep f45)
                  have HS5 := hid (HS4.out.keep f45 (fun h => h))
                  have HF5 := hid (HF4.out.trans f45)
                  clear f45 HE4 HS4 HF4
                  generalize w4.alloc (.cells #[.int .i64 (a : Int), .int .i64 (X : Int), .int .i64 (a : Int)] 34) = w5 at *
                  generalize w4.heap.size = z at *
                  have HZ := hid hz
                  have z0 := hz.cell 0 rfl
                  have z1 := hz.cell 1 rfl
                  have z2 := hz.cell 2 rfl
                  have p1 := HE5.out.arr.at n hn1 (by omega)
                  have hG5 := HE5.out.gs n hn1 (by omega)
                  have HH := hid fun (W : World) (h : GS W (g n) (b n) n n (T n) (L n)) => (hear_good (a : Int) (X : Int) (a : Int) W h HOK.out (by omega)).mono (R' := fun e w' => ∃ ch gr, e = .returned (.tuple #[.bool ch, .bool gr, .int .i64 0]) ∧ GS w' (g n) (b n) n n (max (T n) a) (putJ (L n) ((a : Int), (X : Int), (a : Int))) ∧ Fr (fun x => x = g n ∨ x = b n) W w') fun e w' q => ⟨_, _, q.1, q.2.1, q.2.2⟩
                  have HG5 := hG5.hid
                  clear hz hG5
                  have in0 : (0 : Int) ≤ (n : Int) := by omega
                  have in1 : (n : Int) < 9 := by omega
                  have in2 : ¬ ((9 : Int) ≤ (n : Int)) := by omega
                  have in3 : n < 9 := by omega
                  go_region_held3 (fun w' => w'.cell? ⟨A, n, none⟩ = some (.pointer (some ⟨g n, 0, none⟩)) ∧ w'.cell? ⟨z, 0, none⟩ = some (.int .i64 (a : Int)) ∧ w'.cell? ⟨z, 1, none⟩ = some (.int .i64 (X : Int)) ∧ w'.cell? ⟨z, 2, none⟩ = some (.int .i64 (a : Int)))
                    (first | exact ⟨p1, z0, z1, z2⟩)
                    (first
                      | (go_at_call 11; with_reducible refine (HH.out _ ?hh).mono ?_; (case hh => first | exact HG5.out | exact HG5.out.keep0 ((Fr.refl _ _).drew)); rintro e w6 ⟨ch, gr, rfl, hG6, f6⟩; have f56 : Fr (fun x => x = g n ∨ x = b n) w5 w6 := (by first | exact (Fr.refl _ w5).drew.trans f6 | exact f6); have hE6 := HE5.out.turn hn1 (by omega) f56 hG6; have hz6 := HZ.out.keep f56 (by have := HZN.out; omega); have p1 := hE6.arr.at n hn1 (by omega); have z0 := hz6.cell 0 rfl; have z1 := hz6.cell 1 rfl; have z2 := hz6.cell 2 rfl))
                  have HE6 := hid hE6
                  have HS6 := hid (HS5.out.keep f56 (by have := HBB.out.2.2.2 n hn1 (by omega); omega))
                  have HF6 : Hid (Fr (fun _ => False) w w6) := hid (HF5.out.step f56 (fun i hi h => by have := HBB.out.2.2.2 n hn1 (by omega); omega))
                  clear hE6 hz6 f56 f6 hG6 p1
                  obtain ⟨s0, s1, s2⟩ := HS6.out.at a n ha9 (by omega)
                  have y0 := HS6.out.free (a * 27 + n * 3)
                  have y1 := HS6.out.free (a * 27 + n * 3 + 1)
                  have y2 := HS6.out.free (a * 27 + n * 3 + 2)
                  go_wp2_with fail
                  go_region
                  have hfB : Fr (· = B) w6 ((((w6.setCell ⟨B, a * 27 + n * 3, none⟩ (.int .i64 (a : Int))).setCell ⟨B, a * 27 + n * 3 + 1, none⟩ (.int .i64 (X : Int))).setCell ⟨B, a * 27 + n * 3 + 2, none⟩ (.int .i64 (a : Int))).drew) := ((((Fr.refl _ w6).set1 _ _).set1 _ _).set1 _ _).drew
                  have hS7 : Said ((((w6.setCell ⟨B, a * 27 + n * 3, none⟩ (.int .i64 (a : Int))).setCell ⟨B, a * 27 + n * 3 + 1, none⟩ (.int .i64 (X : Int))).setCell ⟨B, a * 27 + n * 3 + 2, none⟩ (.int .i64 (a : Int))).drew) B (say S a n ((a : Int), (X : Int), (a : Int))) :=
                    (HS6.out.set a n ha9 (by omega) ((a : Int), (X : Int), (a : Int))).keep (F := fun _ => False) ((Fr.refl _ _).drew) (fun h => h)
                  have hI7 : Inv w ((((w6.setCell ⟨B, a * 27 + n * 3, none⟩ (.int .i64 (a : Int))).setCell ⟨B, a * 27 + n * 3 + 1, none⟩ (.int .i64 (X : Int))).setCell ⟨B, a * 27 + n * 3 + 2, none⟩ (.int .i64 (a : Int))).drew) A B g b :=
                    ⟨_, _, _, HE6.out.keepB hfB (by have := HBB.out; omega) (fun q q1 q2 => by have := HBB.out.2.2.2 q q1 q2; omega), fun q q1 q2 => by
                      by_cases e : q = n
                      · simp only [e, if_true]; exact put_nd (HND.out n hn1 (by omega)) _
                      · simp only [e, if_false]; exact HND.out q q1 q2, hS7, HSO.out.say rfl, HF6.out.step hfB (fun i hi h => by have := HBB.out; omega)⟩
                  have HI7 := hid hI7
                  clear hI7 hS7 hfB s0 s1 s2 y0 y1 y2 z0 z1 z2
                  generalize ((((w6.setCell ⟨B, a * 27 + n * 3, none⟩ (.int .i64 (a : Int))).setCell ⟨B, a * 27 + n * 3 + 1, none⟩ (.int .i64 (X : Int))).setCell ⟨B, a * 27 + n * 3 + 2, none⟩ (.int .i64 (a : Int))).drew) = w7 at *
                  go_wp2_with fail
                  go_roundw
                  case rel => exact ⟨n + 1, by omega, by omega, by go_num, HI7.out⟩
                  case measure => simp [intOf]; omega
            · have hn9' : n = 9 := by omega
              subst hn9'
              go_wp2_with fail
              go_roundw
              case rel => exact ⟨k + 1, by omega, by go_num, HI.out⟩
              case measure => simp [intOf]; omega
        · have hex : ¬ k < m ∨ (k < m ∧ ¬ ((k : Int) < 300)) := by omega
          clear hlt
          rcases hex with hx | ⟨hx, hx2⟩
          all_goals
            as_aux_lemma =>
              go_wp2_with fail
              obtain ⟨L, T, S, hE, hND, hS, hSO, hf⟩ := HI.out
              have HE := hid hE
              have HND := hid hND
              have HS := hid hS
              have HSO := hid hSO
              have HF := hid hf
              clear hE hND hS hSO hf HI
              obtain ⟨wL, hwL⟩ : ∃ wL, wL = wr := ⟨_, rfl⟩
              subst hwL
              go_loopw [15] (fun i wq => ∃ a : Nat, 1 ≤ a ∧ a ≤ 9 ∧ i = .int .i64 a ∧ Fr (fun _ => False) wL wq) (fun i _ => 9 - (intOf i).toNat)
              case atStart => exact ⟨1, by omega, by omega, rfl, Fr.refl _ _⟩
              case round =>
                obtain ⟨a, ha1, ha9, rfl, hf⟩ := hrel
                by_cases hla : a ≤ 8
                · go_wp2_with fail
                  go_loopw [16] (fun i wq => ∃ c : Nat, 1 ≤ c ∧ c ≤ 9 ∧ i = .int .i64 c ∧ Fr (fun _ => False) wL wq) (fun i _ => 9 - (intOf i).toNat)
                  case atStart => exact ⟨1, by omega, by omega, rfl, hf⟩
                  case round =>
                    obtain ⟨c, hc1, hc9, rfl, hf⟩ := hrel
                    by_cases hlc8 : c ≤ 8
                    · have p1 := (HE.out.keep hf).arr.at a ha1 (by omega)
                      have p2 := (HE.out.keep hf).arr.at c hc1 (by omega)
                      have hacc := hf
                      have ia0 : (0 : Int) ≤ (a : Int) := by omega
                      have ia1 : (a : Int) < 9 := by omega
                      have ia2 : ¬ ((9 : Int) ≤ (a : Int)) := by omega
                      have ia3 : a < 9 := by omega
                      have ic0 : (0 : Int) ≤ (c : Int) := by omega
                      have ic1 : (c : Int) < 9 := by omega
                      have ic2 : ¬ ((9 : Int) ≤ (c : Int)) := by omega
                      have ic3 : c < 9 := by omega
                      have HO1 := hid fun (W : World) (h : Fr (fun _ => False) wL W) => (own_c ((crew (a : Int) (L a) : Nat) : Int) W ((HE.out.keep h).gs a ha1 (by omega)) rfl).mono (R' := fun e w' => e = .returned (.agg #[.int .i64 (a : Int), .int .i64 ((crew (a : Int) (L a) : Nat) : Int), .int .i64 (a : Int)]) ∧ Fr (fun _ => False) wL w' ∧ Fr (fun _ => False) W w') fun e w' q => ⟨q.1, h.trans q.2.2, q.2.2⟩
                      have HO2 := hid fun (W : World) (h : Fr (fun _ => False) wL W) => (own_c ((crew (c : Int) (L c) : Nat) : Int) W ((HE.out.keep h).gs c hc1 (by omega)) rfl).mono (R' := fun e w' => e = .returned (.agg #[.int .i64 (c : Int), .int .i64 ((crew (c : Int) (L c) : Nat) : Int), .int .i64 (c : Int)]) ∧ Fr (fun _ => False) wL w' ∧ Fr (fun _ => False) W w') fun e w' q => ⟨q.1, h.trans q.2.2, q.2.2⟩
                      have HBL := hid fun (hs : S a c = ((a : Int), ((crew (a : Int) (L a) : Nat) : Int), (a : Int))) (hg : agr (c : Int) (L c) = true) => both_law HSO.out HND.out ha1 (by omega) hc1 (by omega) hs hg
                      generalize crew (a : Int) (L a) = X at *
                      generalize crew (c : Int) (L c) = Y at *
                      have hAL : A < wL.heap.size := by obtain ⟨cs, q, _⟩ := HE.out.arr; exact q.lt
                      have n01 := World.new_ne _ _ p1
                      have n02 := Ne.symm n01
                      go_wp2_with fail
                      go_upto_region 32 with (fail)
                      go_cut [17, 18] from 95 to 158 (fun s t wx => ∃ y z, s = .pointer (some ⟨y, 0, none⟩) ∧ t = .pointer (some ⟨z, 0, none⟩) ∧ Blk wx y #[.int .i64 (a : Int), .int .i64 (X : Int), .int .i64 (a : Int)] 34 ∧ Blk wx z #[.int .i64 (c : Int), .int .i64 (Y : Int), .int .i64 (c : Int)] 34 ∧ Fr (fun _ => False) wL wx)
                      case first =>
                        as_aux_lemma =>
                          go_region_held3 (fun w' => w'.cell? ⟨A, a, none⟩ = some (.pointer (some ⟨g a, 0, none⟩)) ∧ w'.cell? ⟨A, c, none⟩ = some (.pointer (some ⟨g c, 0, none⟩)))
                            (go_keep)
                            (first | (go_at_call 13; with_reducible refine (HO1.out _ ?hh).mono ?_; (case hh => (repeat' (first | with_reducible exact hacc | with_reducible refine Fr.drew ?_ | with_reducible refine Fr.alloc ?_ _))); rintro e w5 ⟨rfl, hacc5, h5⟩; have p1 := (HE.out.keep hacc5).arr.at a ha1 (by omega); have p2 := (HE.out.keep hacc5).arr.at c hc1 (by omega); (first | (have kB := Fresh.keep kB h5; have kA := Fresh.keep kA h5) | (have kB := Fresh.k2b hacc h5; have kA := Fresh.k2a hacc h5) | (have kB := Fresh.k2b hacc.drew h5; have kA := Fresh.k2a hacc.drew h5) | (have kB := Fresh.k2bd hacc h5; have kA := Fresh.k2ad hacc h5) | (have nAB := (Fresh.ne kA).1; have nBA := (Fresh.ne kA).2; have kB := Fresh.k1 hacc h5; have kA := Fresh.keep1 kA h5) | (have kA := Fresh.keep kA h5) | (have kA := Fresh.k1 hacc h5) | (have kA := Fresh.k1 hacc.drew h5) | (have kA := Fresh.k1d hacc h5) | skip); have hacc := hacc5; have n1 := World.new_ne w5 _ p1; have n2 := Ne.symm n1; (first | (obtain ⟨u0, u1, u2, u3, u4, u5⟩ := Fresh.cells kA; have u6 := Fresh.cells' kA; have u7 := Fresh.ne kA; have u8 := Fresh.far kA hAL) | skip); (first | (obtain ⟨y0, y1, y2, y3, y4, y5⟩ := Fresh.cells kB; have y6 := Fresh.cells' kB; have y7 := Fresh.ne kB; have y8 := Fresh.far kB hAL) | skip)) | (go_at_call 13; with_reducible refine (HO2.out _ ?hh).mono ?_; (case hh => (repeat' (first | with_reducible exact hacc | with_reducible refine Fr.drew ?_ | with_reducible refine Fr.alloc ?_ _))); rintro e w5 ⟨rfl, hacc5, h5⟩; have p1 := (HE.out.keep hacc5).arr.at a ha1 (by omega); have p2 := (HE.out.keep hacc5).arr.at c hc1 (by omega); (first | (have kB := Fresh.keep kB h5; have kA := Fresh.keep kA h5) | (have kB := Fresh.k2b hacc h5; have kA := Fresh.k2a hacc h5) | (have kB := Fresh.k2b hacc.drew h5; have kA := Fresh.k2a hacc.drew h5) | (have kB := Fresh.k2bd hacc h5; have kA := Fresh.k2ad hacc h5) | (have nAB := (Fresh.ne kA).1; have nBA := (Fresh.ne kA).2; have kB := Fresh.k1 hacc h5; have kA := Fresh.keep1 kA h5) | (have kA := Fresh.keep kA h5) | (have kA := Fresh.k1 hacc h5) | (have kA := Fresh.k1 hacc.drew h5) | (have kA := Fresh.k1d hacc h5) | skip); have hacc := hacc5; have n1 := World.new_ne w5 _ p1; have n2 := Ne.symm n1; (first | (obtain ⟨u0, u1, u2, u3, u4, u5⟩ := Fresh.cells kA; have u6 := Fresh.cells' kA; have u7 := Fresh.ne kA; have u8 := Fresh.far kA hAL) | skip); (first | (obtain ⟨y0, y1, y2, y3, y4, y5⟩ := Fresh.cells kB; have y6 := Fresh.cells' kB; have y7 := Fresh.ne kB; have y8 := Fresh.far kB hAL) | skip)))
                          all_goals
                            go_wp2_with fail
                            go_meet
                            have q1 := hacc.size
                            try have q2 := kA.2
                            try have q3 := kB.2
                            try have q4 := kA.1
                            try have q5 := kB.1
                            refine ⟨_, _, rfl, rfl, ?_, ?_, ?_⟩
                            all_goals repeat' (first | with_reducible assumption | with_reducible exact Blk.new _ _ _ | with_reducible exact Blk.new1 _ _ _ _ | with_reducible refine Blk.set3 ?_ _ _ _ | with_reducible refine Blk.other3 ?_ ?_ _ _ _ | with_reducible refine Blk.alloc ?_ _ | with_reducible exact Fr.drew hacc | with_reducible refine Fr.alloc ?_ _ | with_reducible refine Fr.setNew ?_ ?_ _)
                            all_goals first | omega | (dsimp only; omega)
                      case rest =>
                        as_aux_lemma =>
                          obtain ⟨y, z, rfl, rfl, hy, hz, hfc⟩ := hcut
                          have HFC := hid hfc
                          have x0 := hy.cell 0 rfl
                          have x1 := hy.cell 1 rfl
                          have x2 := hy.cell 2 rfl
                          have y0 := hz.cell 0 rfl
                          have y1 := hz.cell 1 rfl
                          have y2 := hz.cell 2 rfl
                          obtain ⟨s0, s1, s2⟩ := (HS.out.keep hfc (fun h => h)).at a c ia3 ic3
                          obtain ⟨r0, r1, r2⟩ := (HS.out.keep hfc (fun h => h)).at c a ic3 ia3
                          have hnq := run_neq_join
                          obtain ⟨h1, hh1⟩ : ∃ h1, hasV (X : Int) (c : Int) = h1 := ⟨_, rfl⟩
                          obtain ⟨h2, hh2⟩ : ∃ h2, hasV (Y : Int) (a : Int) = h2 := ⟨_, rfl⟩
                          have HH1 := hid fun (W : World) => ((by have := has_any (X : Int) (c : Int) W; rw [hh1] at this; exact this : Calls Try.prog 22 #[.int .i64 (X : Int), .int .i64 (c : Int)] W fun e w' => e = .returned (.bool h1) ∧ W = w')).mono (R' := fun e w' => e = .returned (.bool h1) ∧ w' = W) fun e w' q => ⟨q.1, q.2.symm⟩
                          have HH2 := hid fun (W : World) => ((by have := has_any (Y : Int) (a : Int) W; rw [hh2] at this; exact this : Calls Try.prog 22 #[.int .i64 (Y : Int), .int .i64 (a : Int)] W fun e w' => e = .returned (.bool h2) ∧ W = w')).mono (R' := fun e w' => e = .returned (.bool h2) ∧ w' = W) fun e w' q => ⟨q.1, q.2.symm⟩
                          obtain ⟨e1, he1⟩ : ∃ e1, decide (((S a c).1, (S a c).2.1, (S a c).2.2) = ((a : Int), (X : Int), (a : Int))) = e1 := ⟨_, rfl⟩
                          obtain ⟨e2, he2⟩ : ∃ e2, decide (((S c a).1, (S c a).2.1, (S c a).2.2) = ((c : Int), (Y : Int), (c : Int))) = e2 := ⟨_, rfl⟩
                          have hn1 := fun W => hnq W (S a c).1 (S a c).2.1 (S a c).2.2 (a : Int) (X : Int) (a : Int)
                          have hn2 := fun W => hnq W (S c a).1 (S c a).2.1 (S c a).2.2 (c : Int) (Y : Int) (c : Int)
                          rw [he1] at hn1
                          rw [he2] at hn2
                          have HE1 := hid he1
                          clear hnq hh1 hh2 he1 he2 hy hz hfc
                          obtain ⟨ac, hac⟩ : ∃ ac, ((a : Int) == (c : Int)) = ac := ⟨_, rfl⟩
                          cases ac with
                          | true =>
                            go_wp2_with fail
                            go_quiet (first | (go_at_call 22; with_reducible refine Calls.quiet_of_same (HH1.out _)) | (go_at_call 22; with_reducible refine Calls.quiet_of_same (HH2.out _)))
                            go_wp2_with fail
                            go_roundw
                            case rel => ((repeat apply Exists.intro); refine ⟨⟨c + 1, by omega, by omega, ?qa, HFC.out.drewN _⟩, ?qb⟩; (case qb => (simp only [Act.mk.injEq, Array.mk.injEq, List.cons.injEq, true_and, and_true]; repeat' (first | refine And.intro ?_ ?_ | rfl | (congr 1; exact (decide_eq_true (by omega)).symm)))); (case qa => go_num))
                            case measure => simp [intOf]; omega
                          | false =>
                            cases h1 with
                            | false =>
                              go_wp2_with fail
                              go_quiet (first | (go_at_call 22; with_reducible refine Calls.quiet_of_same (HH1.out _)) | (go_at_call 22; with_reducible refine Calls.quiet_of_same (HH2.out _)))
                              go_wp2_with fail
                              go_roundw
                              case rel => ((repeat apply Exists.intro); refine ⟨⟨c + 1, by omega, by omega, ?qa, HFC.out.drewN _⟩, ?qb⟩; (case qb => (simp only [Act.mk.injEq, Array.mk.injEq, List.cons.injEq, true_and, and_true]; repeat' (first | refine And.intro ?_ ?_ | rfl | (congr 1; exact (decide_eq_true (by omega)).symm)))); (case qa => go_num))
                              case measure => simp [intOf]; omega
                            | true =>
                              cases h2 with
                              | false =>
                                go_wp2_with fail
                                go_quiet (first | (go_at_call 22; with_reducible refine Calls.quiet_of_same (HH1.out _)) | (go_at_call 22; with_reducible refine Calls.quiet_of_same (HH2.out _)))
                                go_wp2_with fail
                                go_roundw
                                case rel => ((repeat apply Exists.intro); refine ⟨⟨c + 1, by omega, by omega, ?qa, HFC.out.drewN _⟩, ?qb⟩; (case qb => (simp only [Act.mk.injEq, Array.mk.injEq, List.cons.injEq, true_and, and_true]; repeat' (first | refine And.intro ?_ ?_ | rfl | (congr 1; exact (decide_eq_true (by omega)).symm)))); (case qa => go_num))
                                case measure => simp [intOf]; omega
                              | true =>
                                cases e1 with
                                | false =>
                                  go_wp2_with fail
                                  go_quiet (first | (go_at_call 22; with_reducible refine Calls.quiet_of_same (HH1.out _)) | (go_at_call 22; with_reducible refine Calls.quiet_of_same (HH2.out _)))
                                  go_wp2_with fail
                                  go_roundw
                                  case rel => ((repeat apply Exists.intro); refine ⟨⟨c + 1, by omega, by omega, ?qa, HFC.out.drewN _⟩, ?qb⟩; (case qb => (simp only [Act.mk.injEq, Array.mk.injEq, List.cons.injEq, true_and, and_true]; repeat' (first | refine And.intro ?_ ?_ | rfl | (congr 1; exact (decide_eq_true (by omega)).symm)))); (case qa => go_num))
                                  case measure => simp [intOf]; omega
                                | true =>
                                  cases e2 with
                                  | false =>
                                    go_wp2_with fail
                                    go_quiet (first | (go_at_call 22; with_reducible refine Calls.quiet_of_same (HH1.out _)) | (go_at_call 22; with_reducible refine Calls.quiet_of_same (HH2.out _)))
                                    go_wp2_with fail
                                    go_roundw
                                    case rel => ((repeat apply Exists.intro); refine ⟨⟨c + 1, by omega, by omega, ?qa, HFC.out.drewN _⟩, ?qb⟩; (case qb => (simp only [Act.mk.injEq, Array.mk.injEq, List.cons.injEq, true_and, and_true]; repeat' (first | refine And.intro ?_ ?_ | rfl | (congr 1; exact (decide_eq_true (by omega)).symm)))); (case qa => go_num))
                                    case measure => simp [intOf]; omega
                                  | true =>
                                    go_wp2_with fail
                                    go_quiet (first | (go_at_call 22; with_reducible refine Calls.quiet_of_same (HH1.out _)) | (go_at_call 22; with_reducible refine Calls.quiet_of_same (HH2.out _)))
                                    have HFD := hid (HFC.out.drewN nq)
                                    have hFdc : Fr (fun _ => False) wc (wc.drewN nq) := (Fr.refl _ wc).drewN nq
                                    have p1 := (HE.out.keep HFD.out).arr.at a ha1 (by omega)
                                    have hGa := (HE.out.keep HFD.out).gs a ha1 (by omega)
                                    replace x1 := cell_fr hFdc x1
                                    replace y1 := cell_fr hFdc y1
                                    clear hFdc x0 x2 y0 y2 s0 s1 s2 r0 r1 r2 p2
                                    generalize wc.drewN nq = wd at *
                                    obtain ⟨t1, ht1⟩ : ∃ t1, agr (a : Int) (L a) = t1 := ⟨_, rfl⟩
                                    have HCa := hid (agreed_c t1 wd hGa ht1)
                                    clear hGa ht1
                                    go_wp2_with fail
                                    refine HCa.out.mono ?_
                                    rintro e w5 ⟨rfl, hG5, f5⟩
                                    have HF5 := hid (HFD.out.trans f5)
                                    replace x1 := cell_fr f5 x1
                                    replace y1 := cell_fr f5 y1
                                    have p2 := (HE.out.keep HF5.out).arr.at c hc1 (by omega)
                                    have hGc := (HE.out.keep HF5.out).gs c hc1 (by omega)
                                    clear hG5 f5 p1
                                    cases t1 with
                                    | false =>
                                      clear hGc
                                      go_wp2_with fail
                                      all_goals
                                        go_roundw
                                        case rel => ((repeat apply Exists.intro); refine ⟨⟨c + 1, by omega, by omega, ?qa, HF5.out⟩, ?qb⟩; (case qb => (simp only [Act.mk.injEq, Array.mk.injEq, List.cons.injEq, true_and, and_true]; repeat' (first | refine And.intro ?_ ?_ | rfl | (congr 1; exact (decide_eq_true (by omega)).symm)))); (case qa => go_num))
                                        case measure => simp [intOf]; omega
                                    | true =>
                                      obtain ⟨t2, ht2⟩ : ∃ t2, agr (c : Int) (L c) = t2 := ⟨_, rfl⟩
                                      have HCc := hid (agreed_c t2 w5 hGc ht2)
                                      have HT2 := hid ht2
                                      clear hGc ht2
                                      go_wp2_with fail
                                      refine HCc.out.mono ?_
                                      rintro e w6 ⟨rfl, hG6, f6⟩
                                      have HF6 := hid (HF5.out.trans f6)
                                      replace x1 := cell_fr f6 x1
                                      replace y1 := cell_fr f6 y1
                                      clear hG6 f6 p2
                                      cases t2 with
                                      | false =>
                                        go_wp2_with fail
                                        all_goals
                                          go_roundw
                                          case rel => ((repeat apply Exists.intro); refine ⟨⟨c + 1, by omega, by omega, ?qa, HF6.out⟩, ?qb⟩; (case qb => (simp only [Act.mk.injEq, Array.mk.injEq, List.cons.injEq, true_and, and_true]; repeat' (first | refine And.intro ?_ ?_ | rfl | (congr 1; exact (decide_eq_true (by omega)).symm)))); (case qa => go_num))
                                          case measure => simp [intOf]; omega
                                      | true =>
                                        have hXY : X = Y := HBL.out (by have := of_decide_eq_true HE1.out; exact this) HT2.out
                                        subst hXY
                                        go_wp2_with fail
                                        all_goals
                                          go_roundw
                                          case rel => ((repeat apply Exists.intro); refine ⟨⟨c + 1, by omega, by omega, ?qa, HF6.out⟩, ?qb⟩; (case qb => (simp only [Act.mk.injEq, Array.mk.injEq, List.cons.injEq, true_and, and_true]; repeat' (first | refine And.intro ?_ ?_ | rfl | (congr 1; exact (decide_eq_true (by omega)).symm)))); (case qa => go_num))
                                          case measure => simp [intOf]; omega
                    · have hc9' : c = 9 := by omega
                      subst hc9'
                      go_wp2_with fail
                      go_roundw
                      case rel => exact ⟨a + 1, by omega, by omega, by go_num, hf⟩
                      case measure => simp [intOf]; omega
                · go_wp2_with fail
                  go_ret
                  exact ⟨rfl, (HF.out.trans hf).below (Nat.le_refl _) (fun _ h => h.elim)⟩
end Go.Proofs.Ytimfpkiknmnnmaa
