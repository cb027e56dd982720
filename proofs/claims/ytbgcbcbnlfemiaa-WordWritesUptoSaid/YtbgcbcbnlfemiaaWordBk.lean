/-
  A WRITER's DEED OF ANY KIND, and what stands in the writer. Conditions: fewer than 2^40 bytes so far.
-/
import Derived.Test.YtbgcbcbnlfemiaaWordRt
import Derived.Test.YtbgcbcbnlfemiaaWordG2
import Derived.Test.YtbgcbcbnlfemiaaWDb
namespace Go.Proofs.Ytbgcbcbnlfemiaa
open Go.RowKit

/-- A deed's bytes; none, if it may not be. -/
def encB (d : Db) : Option (List Int) :=
  if bring d.k 3 = 0 then (if 0 ≤ d.v ∧ d.v ≤ 9007199254740991 then some (vb d.v.toNat) else none)
  else if bring d.k 3 = 1 then (if (1 ≤ d.s ∧ d.s ≤ 8) ∧ 0 ≤ d.v ∧ d.v.toNat < 256 ^ d.s.toNat then some (beL d.s.toNat d.v.toNat) else none)
  else some (vb d.bs.length ++ d.bs)
def encL (d : Db) : List Int := (encB d).getD []
def fine (d : Db) : Bool := (encB d).isSome
/-- The error that a writer answers. -/
def erW (d : Db) : Int := if fine d then 0 else if bring d.k 3 = 0 then 9 else if 1 ≤ d.s ∧ d.s ≤ 8 then 9 else 2
theorem erW_fine (d : Db) : (erW d = 0) ↔ fine d = true := by
  unfold erW
  cases fine d with
  | true => simp
  | false => simp; split <;> (try split) <;> decide
theorem vbF_le (n x : Nat) : (vbF n x).length ≤ n + 1 := vbF_len n x
theorem encL_len (d : Db) : (encL d).length ≤ 9 * (d.bs.length + 1) := by
  unfold encL encB
  have h8 := vbF_le 8 d.v.toNat
  have h9 := vbF_le 8 d.bs.length
  split
  · split
    · show (vbF 8 d.v.toNat).length ≤ _; omega
    · simp
  · split
    · split
      · rename_i h; show (beL _ _).length ≤ _; rw [beL_len]; omega
      · simp
    · show (vbF 8 d.bs.length ++ d.bs).length ≤ _; rw [List.length_append]; omega
def eDone (D : List Db) : List Db := D.filter fine
def eX (D : List Db) : List Int := (eDone D).flatMap encL
theorem take_snoc {D : List Db} {k : Nat} (h : k < D.length) : D.take (k + 1) = D.take k ++ [D.getD k db0] := by
  rw [List.take_add_one, List.getElem?_eq_getElem h, List.getD_eq_getElem?_getD, List.getElem?_eq_getElem h]; rfl
theorem eDone_snoc {D : List Db} {k : Nat} (h : k < D.length) : eDone (D.take (k + 1)) = if fine (D.getD k db0) then eDone (D.take k) ++ [D.getD k db0] else eDone (D.take k) := by
  rw [take_snoc h]
  unfold eDone
  rw [List.filter_append]
  generalize D.getD k db0 = d
  cases hf : fine d <;> simp [hf]
theorem encL_none {d : Db} (h : fine d = false) : encL d = [] := by
  unfold fine at h; unfold encL
  cases he : encB d with
  | none => rfl
  | some x => rw [he] at h; cases h
theorem eX_snoc {D : List Db} {k : Nat} (h : k < D.length) : eX (D.take (k + 1)) = eX (D.take k) ++ encL (D.getD k db0) := by
  unfold eX
  rw [eDone_snoc h]
  cases hf : fine (D.getD k db0) with
  | true => simp
  | false => rw [encL_none hf]; simp
theorem eX_len (D : List Db) (k : Nat) : (eX (D.take k)).length ≤ 9 * tot (D.take k) := by
  have : ∀ L : List Db, (eX L).length ≤ 9 * tot L := by
    intro L
    induction L with
    | nil => simp [eX, eDone, tot]
    | cons d r ih =>
      have he := encL_len d
      unfold eX eDone at *
      simp only [List.filter_cons, tot]
      split
      · simp only [List.flatMap_cons, List.length_append]; omega
      · omega
  exact this _
theorem eDone_len (D : List Db) (k : Nat) : (eDone (D.take k)).length ≤ tot (D.take k) := Nat.le_trans (List.length_filter_le _ _) (tot_len _)
theorem allB_encL {d : Db} {w : World} (h : DbOk w d) (hb : d.bs.length ≤ 1048576) : AllB (encL d) := by
  unfold encL encB
  split
  · split
    · rename_i h1; exact allB_vb _ (by omega)
    · exact AllB.nil
  · split
    · split
      · exact allB_beL _ _
      · exact AllB.nil
    · exact (allB_vb _ (by omega)).append h.ab
theorem getD_mem {D : List Db} {i : Nat} (h : i < D.length) : D.getD i db0 ∈ D := by
  rw [List.getD_eq_getElem?_getD, List.getElem?_eq_getElem h]; exact List.getElem_mem h
theorem tot_mem {D : List Db} {d : Db} (h : d ∈ D) : d.bs.length + 1 ≤ tot D := by
  induction D with
  | nil => cases h
  | cons x r ih =>
    simp only [tot]
    rcases List.mem_cons.1 h with rfl | h
    · omega
    · have := ih h; omega

/-- What a call of the writer leaves. -/
def WStep (d : Db) (g : Nat) (v : Value) (xs : List Int) (w : World) (e : Ending) (w' : World) : Prop := ∃ v', e = .returned (.int .i64 (erW d)) ∧ WS w' g v' (xs ++ encL d) ∧ Fr (fun k => k = g ∨ k ∈ footOf v) w w' ∧ Grows w (footOf v) (footOf v')
theorem wstep_bad {d : Db} {g : Nat} {v : Value} {xs : List Int} {w w' : World} {e : Ending} {er : Int} (hf : fine d = false) (h : WS w g v xs) (hq : e = .returned (.int .i64 er) ∧ w = w') (he : er = erW d) : WStep d g v xs w e w' := by
  obtain ⟨rfl, rfl⟩ := hq
  exact ⟨v, by rw [he], by rw [encL_none hf, List.append_nil]; exact h, Fr.refl _ _, Grows.refl _ _⟩
theorem wstep0 {d : Db} {g : Nat} {v : Value} {xs : List Int} (w : World) (h : WS w g v xs) (hl : xs.length ≤ 1099511627776) (hk : bring d.k 3 = 0) : Calls Try.prog 25 #[.pointer (some ⟨g, 0, none⟩), .int .i64 d.v] w (WStep d g v xs w) := by
  by_cases hv : 0 ≤ d.v ∧ d.v ≤ 9007199254740991
  · have he : encB d = some (vb d.v.toNat) := by unfold encB; rw [if_pos hk, if_pos hv]
    have hf : fine d = true := by unfold fine; rw [he]; rfl
    have := wput_any d.v.toNat w h hl (by omega)
    rw [show ((d.v.toNat : Nat) : Int) = d.v by omega] at this
    refine this.mono fun e w' ⟨v', h1, h2, h3, h4⟩ => ⟨v', by rw [h1, (erW_fine d).2 hf], ?_, h3, h4⟩
    have h5 : encL d = vb d.v.toNat := by unfold encL; rw [he]; rfl
    rw [h5]; exact h2
  · have he : encB d = none := by unfold encB; rw [if_pos hk, if_neg hv]
    have hf : fine d = false := by unfold fine; rw [he]; rfl
    exact (wput_bad d.v w h (by omega)).mono fun e w' q => wstep_bad hf h q (by unfold erW; rw [hf, if_pos hk]; rfl)
theorem wstep1 {d : Db} {g : Nat} {v : Value} {xs : List Int} (w : World) (h : WS w g v xs) (hl : xs.length ≤ 1099511627776) (hv : I64 d.v) (hk : bring d.k 3 = 1) : Calls Try.prog 27 #[.pointer (some ⟨g, 0, none⟩), .int .i64 d.v, .int .i64 d.s] w (WStep d g v xs w) := by
  have hk0 : ¬ bring d.k 3 = 0 := by omega
  obtain ⟨hv1, hv2⟩ := hv
  by_cases hs : 1 ≤ d.s ∧ d.s ≤ 8
  · by_cases hneg : d.v < 0
    · have he : encB d = none := by unfold encB; rw [if_neg hk0, if_pos hk, if_neg (by omega)]
      have hf : fine d = false := by unfold fine; rw [he]; rfl
      exact (wfixed_neg d.v d.s w h hs.1 hs.2 hneg).mono fun e w' q => wstep_bad hf h q (by unfold erW; rw [hf, if_neg hk0, if_pos hs]; rfl)
    · have hvn : ((d.v.toNat : Nat) : Int) = d.v := by omega
      have hsn : ((d.s.toNat : Nat) : Int) = d.s := by omega
      by_cases hb : d.v.toNat < 256 ^ d.s.toNat
      · have he : encB d = some (beL d.s.toNat d.v.toNat) := by unfold encB; rw [if_neg hk0, if_pos hk, if_pos ⟨hs, by omega, hb⟩]
        have hf : fine d = true := by unfold fine; rw [he]; rfl
        have := wfixed_any d.v.toNat d.s.toNat w h hl (by omega) (by omega) hb (by omega)
        rw [hvn, hsn] at this
        refine this.mono fun e w' ⟨v', h1, h2, h3, h4⟩ => ⟨v', by rw [h1, (erW_fine d).2 hf], ?_, h3, h4⟩
        have h5 : encL d = beL d.s.toNat d.v.toNat := by unfold encL; rw [he]; rfl
        rw [h5]; exact h2
      · have he : encB d = none := by unfold encB; rw [if_neg hk0, if_pos hk, if_neg (fun h => hb h.2.2)]
        have hf : fine d = false := by unfold fine; rw [he]; rfl
        have := wfixed_big d.v.toNat d.s.toNat w h (by omega) (by omega) (by omega) (by omega)
        rw [hvn, hsn] at this
        exact this.mono fun e w' q => wstep_bad hf h q (by unfold erW; rw [hf, if_neg hk0, if_pos hs]; rfl)
  · have he : encB d = none := by unfold encB; rw [if_neg hk0, if_pos hk, if_neg (fun h => hs h.1)]
    have hf : fine d = false := by unfold fine; rw [he]; rfl
    exact (wfixed_arg d.v d.s w h (by omega)).mono fun e w' q => wstep_bad hf h q (by unfold erW; rw [hf, if_neg hk0, if_neg hs]; rfl)
theorem wstep2 {d : Db} {g : Nat} {v : Value} {xs : List Int} (w : World) (h : WS w g v xs) (hl : xs.length ≤ 1099511627776) (hu : Vw .u8 w d.u d.bs) (hap : d.bs ≠ [] → ∀ k, k ∈ footOf d.u → k ≠ g ∧ k ∉ footOf v) (hb : d.bs.length ≤ 1048576) (hk : bring d.k 3 = 2) : Calls Try.prog 29 #[.pointer (some ⟨g, 0, none⟩), d.u] w (WStep d g v xs w) := by
  have he : encB d = some (vb d.bs.length ++ d.bs) := by unfold encB; rw [if_neg (by omega), if_neg (by omega)]
  have hf : fine d = true := by unfold fine; rw [he]; rfl
  have hvl := vbF_le 8 d.bs.length
  have := woctets_e w h hl hu hap (by rw [List.length_append]; show xs.length + (vbF 8 d.bs.length).length + d.bs.length ≤ _; omega)
  refine this.mono fun e w' ⟨v', h1, h2, h3, h4⟩ => ⟨v', by rw [h1, (erW_fine d).2 hf], ?_, h3, h4⟩
  have h5 : encL d = vb d.bs.length ++ d.bs := by unfold encL; rw [he]; rfl
  rw [h5, ← List.append_assoc]; exact h2

/-- What a call of the reader leaves, of a deed that was written. -/
def RStep (g : Nat) (v : Value) (rest : List Int) (w w' : World) : Prop := ∃ v', RS w' g v' rest ∧ Fr (· = g) w w' ∧ footOf v' = footOf v
theorem rstep0 {d : Db} {g : Nat} {v : Value} {rest : List Int} (w : World) (h : RS w g v (encL d ++ rest)) (hf : fine d = true) (hk : bring d.k 3 = 0) : Calls Try.prog 14 #[.pointer (some ⟨g, 0, none⟩)] w fun e w' => e = .returned (.tuple #[.int .i64 d.v, .int .i64 0]) ∧ RStep g v rest w w' := by
  by_cases hv : 0 ≤ d.v ∧ d.v ≤ 9007199254740991
  · have h5 : encL d = vb d.v.toNat := by unfold encL encB; rw [if_pos hk, if_pos hv]; rfl
    rw [h5] at h
    have hr := num_rt d.v.toNat rest (by omega)
    have := get_any w h
    rw [hr] at this
    refine this.mono fun e w' ⟨v', h1, h2, h3, h4⟩ => ⟨by rw [h1]; show Ending.returned (.tuple #[.int .i64 ((d.v.toNat : Nat) : Int), .int .i64 0]) = _; rw [show ((d.v.toNat : Nat) : Int) = d.v by omega], v', ?_, h3, h4⟩
    simpa using h2
  · have he : encB d = none := by unfold encB; rw [if_pos hk, if_neg hv]
    unfold fine at hf; rw [he] at hf; cases hf
theorem rstep1 {d : Db} {g : Nat} {v : Value} {rest : List Int} (w : World) (h : RS w g v (encL d ++ rest)) (hf : fine d = true) (hv : I64 d.v) (hk : bring d.k 3 = 1) : Calls Try.prog 16 #[.pointer (some ⟨g, 0, none⟩), .int .i64 d.s] w fun e w' => e = .returned (.tuple #[.int .i64 d.v, .int .i64 0]) ∧ RStep g v rest w w' := by
  have hk0 : ¬ bring d.k 3 = 0 := by omega
  obtain ⟨hv1, hv2⟩ := hv
  by_cases hc : (1 ≤ d.s ∧ d.s ≤ 8) ∧ 0 ≤ d.v ∧ d.v.toNat < 256 ^ d.s.toNat
  · have h5 : encL d = beL d.s.toNat d.v.toNat := by unfold encL encB; rw [if_neg hk0, if_pos hk, if_pos hc]; rfl
    obtain ⟨⟨h1, h8⟩, h0, hb⟩ := hc
    rw [h5] at h
    have hr := fix_rt d.s.toNat d.v.toNat rest (by omega) (by omega) hb (by omega)
    have := fixed_good d.s.toNat w h (by omega) (by omega) (by rw [List.length_append, beL_len]; omega)
    rw [hr] at this
    rw [show ((d.s.toNat : Nat) : Int) = d.s by omega] at this
    refine this.mono fun e w' ⟨v', h1, h2, h3, h4⟩ => ⟨by rw [h1]; show Ending.returned (.tuple #[.int .i64 ((d.v.toNat : Nat) : Int), .int .i64 0]) = _; rw [show ((d.v.toNat : Nat) : Int) = d.v by omega], v', ?_, h3, h4⟩
    have hd : List.drop d.s.toNat (beL d.s.toNat d.v.toNat ++ rest) = rest := by
      rw [List.drop_append_of_le_length (by rw [beL_len]; exact Nat.le_refl _)]
      have := beL_len d.s.toNat d.v.toNat
      rw [List.drop_of_length_le (by omega)]; rfl
    rw [← hd]; exact h2
  · have he : encB d = none := by unfold encB; rw [if_neg hk0, if_pos hk, if_neg hc]
    unfold fine at hf; rw [he] at hf; cases hf
theorem rstep2 {d : Db} {g : Nat} {v : Value} {rest : List Int} (w : World) (h : RS w g v (encL d ++ rest)) (hx : (encL d ++ rest).length ≤ 140737488355328) (hb : d.bs.length ≤ 1048576) (hk : bring d.k 3 = 2) : Calls Try.prog 18 #[.pointer (some ⟨g, 0, none⟩), .int .i64 (d.bs.length : Int)] w fun e w' => ∃ v1, e = .returned (.tuple #[v1, .int .i64 0]) ∧ Vw .u8 w' v1 d.bs ∧ RStep g v rest w w' := by
  have h5 : encL d = vb d.bs.length ++ d.bs := by unfold encL encB; rw [if_neg (by omega), if_neg (by omega)]; rfl
  rw [h5] at h hx
  have hr := oct_rt d.bs rest (by omega)
  have := octets_good (d.bs.length : Int) w h hx (by rw [hr])
  rw [hr] at this
  refine this.mono fun e w' ⟨v1, v', h1, h2, h3, h4, h6, h7⟩ => ⟨v1, h1, Vw.of_row h2, v', ?_, h6, h7⟩
  have hd : List.drop ((vb d.bs.length).length + d.bs.length) (vb d.bs.length ++ d.bs ++ rest) = rest := by
    rw [← List.length_append, List.drop_left]
  rw [← hd]; exact h4
end Go.Proofs.Ytbgcbcbnlfemiaa
