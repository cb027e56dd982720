/-
  CALLS WITH KNOWN ANSWERS (ch 01). Conditions: none.
-/
import Derived.Test.YtbgcbcbnlfemiaaWordW
import Derived.Test.YtbgcbcbnlfemiaaWordG
import Derived.Test.YtbgcbcbnlfemiaaWordNil
import Derived.Test.YtbgcbcbnlfemiaaEqI
namespace Go.Proofs.Ytbgcbcbnlfemiaa
open Go.RowKit

structure WA (w0 w : World) (g : Nat) (v : Value) (xs : List Int) : Prop where
  ws : WS w g v xs
  fr : Fr (fun _ => False) w0 w
  lo : w0.heap.size ≤ g
  ab : Above w0.heap.size (footOf v)
structure RA (w0 w : World) (g : Nat) (v : Value) (xs : List Int) : Prop where
  rs : RS w g v xs
  fr : Fr (fun _ => False) w0 w
  lo : w0.heap.size ≤ g
theorem WA.keep {w0 w w' : World} {g : Nat} {v : Value} {xs : List Int} (h : WA w0 w g v xs) (f : Fr (fun _ => False) w w') : WA w0 w' g v xs := ⟨h.ws.keep f, h.fr.trans f, h.lo, h.ab⟩
theorem RA.keep {w0 w w' : World} {g : Nat} {v : Value} {xs : List Int} (h : RA w0 w g v xs) (f : Fr (fun _ => False) w w') : RA w0 w' g v xs := ⟨h.rs.keep f, h.fr.trans f, h.lo⟩
theorem put_c (V : Int) (zs : List Int) (w : World) (hV : 0 ≤ V ∧ V ≤ 9007199254740991) (hk : vb V.toNat = zs) : Calls Try.prog 22 #[.int .i64 V] w fun e w' => ∃ v', e = .returned v' ∧ Vw .u8 w' v' zs ∧ Fr (fun _ => False) w w' := by
  obtain ⟨n, rfl⟩ : ∃ n : Nat, V = (n : Int) := ⟨V.toNat, by omega⟩
  refine (put_any n w (by omega)).mono ?_
  rintro e w' ⟨v, q1, q2, q3, _⟩
  rw [Int.toNat_natCast] at hk
  rw [hk] at q2
  exact ⟨v, q1, Vw.of_row q2, q3⟩
theorem wnew_c (w : World) : Calls Try.prog 23 #[] w fun e w' => ∃ g, e = .returned (.pointer (some ⟨g, 0, none⟩)) ∧ WA w w' g (.slice none 0 0) [] := by
  refine (write_any w).mono ?_
  rintro e w' ⟨g, q1, q2, q3, q4⟩
  exact ⟨g, q1, q2, q3, q4, fun k hk => by simp [footOf, Value.ownBlock] at hk⟩
theorem wfix9_c {w0 : World} {g : Nat} {v : Value} {xs : List Int} (V s : Int) (w : World) (h : WA w0 w g v xs) (h1 : 1 ≤ s) (h8 : s ≤ 8) (hV : ((256 ^ s.toNat : Nat) : Int) ≤ V) (hV2 : V ≤ 9223372036854775807) :
    Calls Try.prog 27 #[.pointer (some ⟨g, 0, none⟩), .int .i64 V, .int .i64 s] w fun e w' => e = .returned (.int .i64 9) ∧ w = w' := by
  obtain ⟨n, rfl⟩ : ∃ n : Nat, s = (n : Int) := ⟨s.toNat, by omega⟩
  obtain ⟨m, rfl⟩ : ∃ m : Nat, V = (m : Int) := ⟨V.toNat, by have := Int.natCast_nonneg (256 ^ ((n : Int)).toNat); omega⟩
  exact wfixed_big m n w h.ws (by omega) (by omega) (by rw [Int.toNat_natCast] at hV; exact Int.ofNat_le.1 hV) (by omega)
theorem wfix_c {w0 : World} {g : Nat} {v : Value} {xs : List Int} (V s : Int) (zs : List Int) (w : World) (h : WA w0 w g v xs) (hl : xs.length ≤ 100) (h1 : 1 ≤ s) (h8 : s ≤ 8) (h0 : 0 ≤ V) (hV : V < ((256 ^ s.toNat : Nat) : Int)) (hV2 : V ≤ 9223372036854775807) (hk : xs ++ beL s.toNat V.toNat = zs) :
    Calls Try.prog 27 #[.pointer (some ⟨g, 0, none⟩), .int .i64 V, .int .i64 s] w fun e w' => ∃ v', e = .returned (.int .i64 0) ∧ WA w0 w' g v' zs := by
  obtain ⟨n, rfl⟩ : ∃ n : Nat, s = (n : Int) := ⟨s.toNat, by omega⟩
  obtain ⟨m, rfl⟩ : ∃ m : Nat, V = (m : Int) := ⟨V.toNat, by omega⟩
  rw [Int.toNat_natCast] at hV hk
  rw [Int.toNat_natCast] at hk
  refine (wfixed_any m n w h.ws (by omega) (by omega) (by omega) (by omega) (by omega)).mono ?_
  rintro e w' ⟨v', q1, q2, q3, q4⟩
  have hz := h.fr.size
  refine ⟨v', q1, by rw [← hk]; exact q2, h.fr.step q3 (fun k hk hm => ?_), h.lo, fun k hk => ?_⟩
  · rcases hm with rfl | hm
    · have := h.lo; omega
    · have := h.ab k hm; omega
  · rcases q4 k hk with h' | h'
    · exact h.ab k h'
    · omega
theorem wbytes_c {w0 : World} {g : Nat} {v : Value} {xs : List Int} (w : World) (h : WA w0 w g v xs) (hl : xs.length ≤ 100) : Calls Try.prog 31 #[.pointer (some ⟨g, 0, none⟩)] w fun e w' => ∃ v', e = .returned v' ∧ Vw .u8 w' v' xs ∧ WA w0 w' g v xs ∧ ∃ ao c, v' = .slice ao xs.length c := by
  refine (bytes_any w h.ws (by omega)).mono ?_
  rintro e w' ⟨v', q1, q2, q3, _⟩
  exact ⟨v', q1, Vw.of_row q2, h.keep q3, row_shape q2⟩
theorem rnew_c (v : Value) (xs : List Int) (w0 w : World) (hF : Fr (fun _ => False) w0 w) (hv : Vw .u8 w v xs) (ha : (xs.all fun z => decide (0 ≤ z) && decide (z ≤ 255)) = true) (hl : xs.length ≤ 100) : Calls Try.prog 10 #[v] w fun e w' => ∃ g v', e = .returned (.pointer (some ⟨g, 0, none⟩)) ∧ RA w0 w' g v' xs := by
  refine (rnew_any v xs w hv (allB_of ha) (by omega)).mono ?_
  rintro e w' ⟨g, v', q1, q2, q3, q4, _⟩
  exact ⟨g, v', q1, q2, hF.trans q3, by have := hF.size; omega⟩
theorem RA.step {w0 w w' : World} {g : Nat} {v v' : Value} {xs ys : List Int} (h : RA w0 w g v xs) (hr : RS w' g v' ys) (f : Fr (· = g) w w') : RA w0 w' g v' ys :=
  ⟨hr, h.fr.step f (fun k hk hm => by have := h.lo; omega), h.lo⟩
theorem rfix_c {w0 : World} {g : Nat} {v : Value} {xs : List Int} (s a b : Int) (ys : List Int) (w : World) (h : RA w0 w g v xs) (hk : fixR xs s = (a.toNat, xs.length - ys.length, b)) (h0 : 0 ≤ a) (hy : xs.drop (xs.length - ys.length) = ys) (hc : (s < 1 ∨ 8 < s ∨ (xs.length : Int) < s) ∧ xs = ys ∨ (1 ≤ s ∧ s ≤ 8 ∧ s ≤ (xs.length : Int))) :
    Calls Try.prog 16 #[.pointer (some ⟨g, 0, none⟩), .int .i64 s] w fun e w' => ∃ v', e = .returned (.tuple #[.int .i64 a, .int .i64 b]) ∧ RA w0 w' g v' ys := by
  have ea : ((a.toNat : Nat) : Int) = a := by omega
  rcases hc with ⟨hc, hxy⟩ | ⟨c1, c2, c3⟩
  · refine (fixed_bad s w h.rs hc).mono ?_
    rintro e w' ⟨q1, _, rfl⟩
    rw [hk] at q1
    simp only [ea] at q1
    exact ⟨v, q1, by rw [← hxy]; exact h⟩
  · obtain ⟨n, rfl⟩ : ∃ n : Nat, s = (n : Int) := ⟨s.toNat, by omega⟩
    refine (fixed_good n w h.rs (by omega) (by omega) (by omega)).mono ?_
    rintro e w' ⟨v', q1, q2, q3, _⟩
    rw [hk] at q1 q2
    simp only [ea] at q1
    simp only [hy] at q2
    exact ⟨v', q1, h.step q2 q3⟩
theorem roct9_c {w0 : World} {g : Nat} {v : Value} {xs : List Int} (m b : Int) (w : World) (h : RA w0 w g v xs) (hk : (octR xs m).2.1 = b) (hb : b ≠ 0) :
    Calls Try.prog 18 #[.pointer (some ⟨g, 0, none⟩), .int .i64 m] w fun e w' => e = .returned (.tuple #[.slice none 0 0, .int .i64 b]) ∧ w = w' := by
  refine (octets_bad m w h.rs (by rw [hk]; exact hb)).mono ?_
  rintro e w' ⟨q1, _, _, rfl⟩
  rw [hk] at q1
  exact ⟨q1, rfl⟩
theorem rleft_c {w0 : World} {g : Nat} {v : Value} {xs : List Int} (n : Int) (w : World) (h : RA w0 w g v xs) (hk : (xs.length : Int) = n) : Calls Try.prog 20 #[.pointer (some ⟨g, 0, none⟩)] w fun e w' => e = .returned (.int .i64 n) ∧ w = w' := by
  have := left_any w h.rs
  rw [hk] at this; exact this
theorem vwI_lit (w : World) (zs : List Int) (cs : Array Value) (n : Nat) (hc : (zs.map (Value.int .i64)).toArray = cs) (hn : zs.length = n) (hl : zs.length ≤ 100) : Vw .i64 (w.alloc (.cells cs 3)) (.slice (some ⟨w.heap.size, 0, none⟩) n n) zs := by
  subst hc; subst hn
  have := World.ownsRow_lit (base := 0) (size := 1) (e := 3) w (zs.map (Value.int .i64)).toArray zs.length (Nat.zero_le _) (by unfold maxLen; omega) (by simp)
  exact Vw.of_row (by simpa using this)
theorem Blk.new1 (w : World) (o : Obj) (cs : Array Value) (t : TypeId) : Blk ((w.alloc o).alloc (.cells cs t)) (w.heap.size + 1) cs t := by
  have h := Blk.new (w.alloc o) cs t
  rw [World.size_alloc] at h; exact h
theorem Blk.new0 (w : World) (o : Obj) (cs : Array Value) (t : TypeId) : Blk ((w.alloc (.cells cs t)).alloc o) w.heap.size cs t :=
  (Blk.new w cs t).keep ((Fr.refl (fun _ => False) _).alloc _) (fun h => h)
end Go.Proofs.Ytbgcbcbnlfemiaa
