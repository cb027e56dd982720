/-
  WHAT THE REFERENCE's SIEVE DOES: New and Fresh. Conditions: the sieve lies in memory as New made it and calls turned it; at most 1,000 numbers.
-/
import Derived.Test.YtoecdbolcdfbjaaFresh
import Derived.LoopTactic
import Derived.Outline
namespace Go.Proofs.Ytoecdbolcdfbjaa
open Go.RowKit

theorem infoInt : (Try.prog.info? 3).map (fun i => (i.zero, i.size, i.bytes)) = some (some (.int .i64 0), 1, 8) := by kernel_rfl

/-- At block p lies a reference's sieve that has seen L (the last one first); F: the blocks that it takes up. -/
def RV (w : World) (p : Nat) (F : List Nat) (L : List Int) : Prop :=
  ∃ v, Blk w p #[.int .i64 (mx L), v] 39 ∧ w.ownsRow 0 3 1 v L.length (L.reverse.map (.int .i64)) ∧ F = p :: footOf v ∧ (∀ x ∈ L, 1 ≤ x) ∧ mx L ≤ 9223372036854775807

theorem RV.live {w : World} {p : Nat} {F : List Nat} {L : List Int} (h : RV w p F L) : Live w F := by
  obtain ⟨v, hB, hR, rfl, _⟩ := h
  intro k hk
  rcases List.mem_cons.1 hk with rfl | hk
  · exact hB.lt
  · exact row_live hR k hk
theorem RV.keep {S : Nat → Prop} {w w' : World} {p : Nat} {F : List Nat} {L : List Int} (h : RV w p F L) (f : Fr S w w') (hn : ∀ k, k ∈ F → ¬ S k) : RV w' p F L := by
  obtain ⟨v, hB, hR, rfl, r⟩ := h
  exact ⟨v, hB.keep f (hn p (by simp)), row_keep hR f (fun k hk => hn k (by simp [hk])), rfl, r⟩

def RefPost (w : World) (p : Nat) (F : List Nat) (L : List Int) (n : Int) (e : Ending) (w' : World) : Prop :=
  e = .returned (.tuple #[.bool (isF L n), .int .i64 (erN n)]) ∧ ∃ F', RV w' p F' (stepF L n) ∧ Fr (· ∈ F) w w' ∧ Grows w F F'

theorem ref_no {w : World} {p : Nat} {F : List Nat} {L : List Int} {n : Int} {k : Int} (h : RV w p F L) (hf : isF L n = false) (he : erN n = k) :
    RefPost w p F L n (.returned (.tuple #[.bool false, .int .i64 k])) w :=
  ⟨by rw [hf, he], F, by unfold stepF; rw [hf]; exact h, Fr.refl _ _, Grows.refl _ _⟩

theorem isF_yes {L : List Int} {n : Int} (h1 : 1 ≤ n) (h2 : mx L - n < 64) (h3 : n ∉ L) : isF L n = true := by
  simp only [isF, Bool.and_eq_true, decide_eq_true_eq, Bool.not_eq_true', List.contains_eq_mem, decide_eq_false_iff_not]
  exact ⟨⟨h1, h2⟩, h3⟩

theorem not_mem_of_all {L : List Int} {n : Int} (h : ∀ j, j < L.length → L.reverse.getD j 0 ≠ n) : n ∉ L := fun hm => by
  obtain ⟨j, hj, he⟩ := List.mem_iff_getElem.1 (List.mem_reverse.2 hm)
  exact h j (by simpa using hj) (by rw [List.getD_eq_getElem?_getD, List.getElem?_eq_getElem hj]; exact he)

theorem ref_yes {w w' : World} {p : Nat} {F : List Nat} {L : List Int} {n top m : Int} {v : Value} (hB : Blk w' p #[.int .i64 m, v] 39) (hnm : n ∉ L) (hn : 1 ≤ n) (hc : top - n < 64) (htop : top = mx L)
    (ht : top ≤ 9223372036854775807) (hn1 : n ≤ 9223372036854775807) (hpos : ∀ x ∈ L, 1 ≤ x) (hR : w'.ownsRow 0 3 1 v (n :: L).length ((n :: L).reverse.map (.int .i64)))
    (fr : Fr (· ∈ F) w w') (hg : Grows w F (p :: footOf v)) (hm : m = max n top) : RefPost w p F L n (.returned (.tuple #[.bool true, .int .i64 0])) w' := by
  have hf := isF_yes hn (by rw [← htop]; exact hc) hnm
  refine ⟨by rw [hf]; simp [erN]; omega, p :: footOf v, ?_, fr, hg⟩
  unfold stepF; rw [hf]
  have e : mx (n :: L) = m := by rw [hm, htop]; rfl
  refine ⟨v, by rw [if_pos rfl, e]; exact hB, hR, rfl, ?_, by rw [if_pos rfl, e]; omega⟩
  intro x hx
  rcases List.mem_cons.1 hx with rfl | hx
  · exact hn
  · exact hpos x hx

set_option maxRecDepth 100000 in
theorem rfresh_core (p : Nat) (top : Int) (v : Value) (L : List Int) (zs : List Int) (n : Int) (w : World) (hB : Blk w p #[.int .i64 top, v] 39)
    (hR : w.ownsRow 0 3 1 v L.length (zs.map (.int .i64))) (hzs : zs = L.reverse) (htop : top = mx L) (hpos : ∀ x ∈ L, 1 ≤ x) (ht : top ≤ 9223372036854775807) (hl : L.length ≤ 1000)
    (hn0 : -9223372036854775808 ≤ n) (hn1 : n ≤ 9223372036854775807) :
    Calls Try.prog 11 #[.pointer (some ⟨p, 0, none⟩), .int .i64 n] w (RefPost w p (p :: footOf v) L n) := by
  have hS : RV w p (p :: footOf v) L := ⟨v, htop ▸ hB, hzs ▸ hR, rfl, hpos, htop ▸ ht⟩
  have hp0 : 0 ≤ top := by rw [htop]; exact mx_nonneg L
  have HZ := hid hzs
  have HT := hid htop
  have HP := hid hpos
  have hzl : zs.length = L.length := by rw [hzs]; simp
  clear hpos hzs htop
  have h0 : w.cell? ⟨p, 0, none⟩ = some (.int .i64 top) := hB.cell 0 rfl
  by_cases c1 : n < 1
  · go_enter Try.func11, Try.ntmps11
    go_wp2
    go_ret2
    exact ref_no hS (isF_bad c1) (by simp [erN, c1])
  have hn : 1 ≤ n := by omega
  by_cases c2 : 64 ≤ top - n
  · go_enter Try.func11, Try.ntmps11
    go_wp2
    go_ret2
    refine ref_no hS ?_ (by simp [erN, c1])
    simp only [isF, ← HT.out]
    rw [show decide (top - n < 64) = false from by simp; omega]
    simp
  have c3 : top - n < 64 := by omega
  obtain ⟨ao, cap, rfl, hcap, hcm, hxl, hcell⟩ := row_form hR
  have h1 : w.cell? ⟨p, 1, none⟩ = some (.slice ao L.length cap) := hB.cell 1 rfl
  have hf := hB.free
  obtain ⟨i0, hi, hz0, hz1, hz2⟩ := info_parts infoInt
  go_enter Try.func11, Try.ntmps11
  go_wp2
  go_loop [6] (fun i => ∃ k : Nat, k ≤ L.length ∧ i = .int .i64 k ∧ ∀ j, j < k → zs.getD j 0 ≠ n) (fun i => L.length - (intOf i).toNat)
  case atStart => exact ⟨0, Nat.zero_le _, rfl, fun j hj => by omega⟩
  case round =>
    obtain ⟨k, hk, rfl, hall⟩ := hrel
    have HA := hid hall
    clear hall
    by_cases hlt : k < L.length
    · obtain ⟨g, rfl, hgF, hc, hfz⟩ := hcell k hlt
      have hc' : w.cell? ⟨g, k, none⟩ = some (.int .i64 (zs.getD k 0)) := by rw [hc]; exact ints_get (by omega)
      clear hc hcell
      generalize hm : zs.getD k 0 = m at *
      by_cases he : m = n
      · have hno : isF L n = false := by
          have : n ∈ L := by rw [← List.mem_reverse, ← HZ.out, ← he, ← hm, getD_eq (by omega)]; exact List.getElem_mem _
          simp [isF, this]
        have HN := hid hno
        have he' : (m == n) = true := by simpa using he
        clear hno he hm
        go_wp2
        go_ret2
        exact ref_no hS HN.out (by simp [erN, c1])
      · have he' : (m == n) = false := by simpa using he
        have HE := hid he
        have HM := hid hm
        clear he hm
        go_wp2
        go_round
        case rel => exact ⟨k + 1, by omega, by go_num, fun j hj => by
          by_cases hjk : j = k
          · subst hjk; rw [HM.out]; exact HE.out
          · exact HA.out j (by omega)⟩
        case measure => simp [intOf]; omega
    · have hkl : L.length ≤ k := by omega
      have HNM : Hid (n ∉ L) := hid (not_mem_of_all (fun j hj => by rw [← HZ.out]; exact HA.out j (by omega)))
      go_wp2_with (at_builtin; refine wpList_append_row rfl _ _ 22 rfl 3 i0 (.int .i64 0) 1 8 Try.underlying22 hi hz0 hz1 hz2 rfl (by decide) _ L.length (zs.map (.int .i64)) rfl (hR.alloc _) ⟨w.heap.size, 0, none⟩ 1 1 [.int .i64 n] rfl rfl (one_new _ _ _) (one_int _ _) ?c3 ?c4 ?_)
      case c3 => unfold maxLen; omega
      case c4 => omega
      intro v' w1 hown hfr hgr _
      have hpf : ∀ k, k ∈ footOf (.slice ao L.length cap) → p ≠ k := fun k hk e => by
        obtain ⟨cs, hcs⟩ := row_type hR hk
        have := hB.type (e ▸ hcs); simp at this
      have hB1 := (hB.alloc (.cells #[.int .i64 n] 3)).keep hfr (fun hk => hpf p hk rfl)
      have hF1 : Fr (· ∈ p :: footOf (.slice ao L.length cap)) w w1 := ((Fr.refl _ w).alloc _).trans (hfr.mono (fun k _ hk => by simp [hk]))
      have hpf' : ∀ k, k ∈ footOf v' → p ≠ k := fun k hk e => by
        obtain ⟨cs, hcs⟩ := row_type hown hk
        have := hB1.type (e ▸ hcs); simp at this
      have k0 : w1.cell? ⟨p, 0, none⟩ = some (.int .i64 top) := hB1.cell 0 rfl
      have k1 : w1.cell? ⟨p, 1, none⟩ = some (.slice ao L.length cap) := hB1.cell 1 rfl
      have kf := hB1.free
      obtain ⟨ao', cap', rfl, _, _, _, _⟩ := row_form hown
      go_wp2
      all_goals go_ret2
      all_goals
        refine ref_yes (v := .slice ao' (L.length + 1) cap') (m := max n top) ?_ HNM.out hn c3 HT.out ht hn1 HP.out ?_ ?_ ?_ ?_
        · exact ((hB1.set 1 _).set' 0 _ (by first | (rw [show max n top = n from by omega]; rfl) | (rw [show max n top = top from by omega]; rfl)))
        · rw [show (n :: L).length = L.length + 1 from rfl, List.reverse_cons, ← HZ.out, List.map_append]
          exact row_keep hown ((Fr.refl (· ∈ [p]) w1).setCell (p := ⟨p, 1, none⟩) (by simp) _ |>.setCell (p := ⟨p, 0, none⟩) (by simp) _) (fun k hk h => hpf' k hk (List.mem_singleton.1 h).symm)
        · exact (hF1.setCell (p := ⟨p, 1, none⟩) (by simp) _).setCell (p := ⟨p, 0, none⟩) (by simp) _
        · intro k hk
          rcases List.mem_cons.1 hk with rfl | hk
          · exact .inl (by simp)
          · rcases hgr k hk with h | h
            · exact .inl (by simp [h])
            · exact .inr (by simp at h; omega)
        · rfl

theorem rfresh_any (p : Nat) (F : List Nat) (L : List Int) (n : Int) (w : World) (h : RV w p F L) (hl : L.length ≤ 1000) (hn0 : -9223372036854775808 ≤ n) (hn1 : n ≤ 9223372036854775807) :
    Calls Try.prog 11 #[.pointer (some ⟨p, 0, none⟩), .int .i64 n] w (RefPost w p F L n) := by
  obtain ⟨v, hB, hR, rfl, hpos, ht⟩ := h
  exact rfresh_core p (mx L) v L L.reverse n w hB hR rfl rfl hpos ht hl hn0 hn1

theorem rnew_at (w : World) : Calls Try.prog 9 #[] w fun e w' => ∃ b F, e = .returned (.pointer (some ⟨b, 0, none⟩)) ∧ RV w' b F [] ∧ Above w.heap.size F ∧ Fr (fun _ => False) w w' := by
  go_enter Try.func9, Try.ntmps9
  go_wp2
  go_ret
  exact ⟨w.heap.size, [w.heap.size], rfl, ⟨.slice none 0 0, Blk.new _ _ _, World.ownsRow_nil _ _ _ _, rfl, by simp, by decide⟩, by intro k hk; simp at hk; omega, (Fr.refl _ _).alloc _⟩

end Go.Proofs.Ytoecdbolcdfbjaa
