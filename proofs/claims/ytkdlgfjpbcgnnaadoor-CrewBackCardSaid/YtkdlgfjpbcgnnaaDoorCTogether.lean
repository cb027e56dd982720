/-
  THE WALK OF CrewTogether. Conditions: the table of math/bits as its initialiser lays it.
-/
import Derived.Test.YtkdlgfjpbcgnnaaDoorCWorks
namespace Go.Proofs.YtkdlgfjpbcgnnaaDoor
open Go.RowKit

theorem ofInt_wrap (n : Int) : BitVec.ofInt 64 (IntKind.i64.wrap n) = BitVec.ofInt 64 n := by
  apply BitVec.eq_of_toNat_eq
  rw [BitVec.toNat_ofInt, BitVec.toNat_ofInt]
  simp [IntKind.wrap, IntKind.signed, IntKind.bits]
  omega
theorem ofInt_or (a b : Int) : BitVec.ofInt 64 (bits .or .i64 a b) = BitVec.ofInt 64 a ||| BitVec.ofInt 64 b := by
  show BitVec.ofInt 64 (IntKind.i64.wrap ((BitVec.ofInt 64 a ||| BitVec.ofInt 64 b).toNat : Int)) = _
  rw [ofInt_wrap, BitVec.ofInt_natCast, BitVec.ofNat_toNat]; simp
theorem ofInt_and (a b : Int) : BitVec.ofInt 64 (bits .and .i64 a b) = BitVec.ofInt 64 a &&& BitVec.ofInt 64 b := by
  show BitVec.ofInt 64 (IntKind.i64.wrap ((BitVec.ofInt 64 a &&& BitVec.ofInt 64 b).toNat : Int)) = _
  rw [ofInt_wrap, BitVec.ofInt_natCast, BitVec.ofNat_toNat]; simp
theorem hasV_or (a b : Int) (n : Nat) (h1 : 1 ≤ n) (h2 : n ≤ 8) : hasV (bits .or .i64 a b) (n : Int) = (hasV a (n : Int) || hasV b (n : Int)) := by
  rw [hasV_bit _ n h1 h2, hasV_bit _ n h1 h2, hasV_bit _ n h1 h2, ofInt_or, BitVec.toNat_or, Nat.testBit_or]
theorem hasV_and (a b : Int) (n : Nat) (h1 : 1 ≤ n) (h2 : n ≤ 8) : hasV (bits .and .i64 a b) (n : Int) = (hasV a (n : Int) && hasV b (n : Int)) := by
  rw [hasV_bit _ n h1 h2, hasV_bit _ n h1 h2, hasV_bit _ n h1 h2, ofInt_and, BitVec.toNat_and, Nat.testBit_and]
theorem ofInt_xor (a b : Int) : BitVec.ofInt 64 (bits .xor .i64 a b) = BitVec.ofInt 64 a ^^^ BitVec.ofInt 64 b := by
  show BitVec.ofInt 64 (IntKind.i64.wrap ((BitVec.ofInt 64 a ^^^ BitVec.ofInt 64 b).toNat : Int)) = _
  rw [ofInt_wrap, BitVec.ofInt_natCast, BitVec.ofNat_toNat]; simp
theorem ones_bit : ((List.range 9).all fun n => (BitVec.ofInt 64 (-1)).toNat.testBit n) = true := by kernel_rfl
theorem hasV_not (a : Int) (n : Nat) (h1 : 1 ≤ n) (h2 : n ≤ 8) : hasV (bits .xor .i64 (-1) a) (n : Int) = !hasV a (n : Int) := by
  rw [hasV_bit _ n h1 h2, hasV_bit _ n h1 h2, ofInt_xor, BitVec.toNat_xor, Nat.testBit_xor, List.all_eq_true.1 ones_bit n (List.mem_range.2 (by omega))]
  simp
def bn (b : Bool) : Nat := if b then 1 else 0
theorem count8 (c : Int) : (lst c 8).length = bn (hasV c 1) + bn (hasV c 2) + bn (hasV c 3) + bn (hasV c 4) + bn (hasV c 5) + bn (hasV c 6) + bn (hasV c 7) + bn (hasV c 8) := by
  rw [lst_count]
  simp only [show List.range 8 = [0, 1, 2, 3, 4, 5, 6, 7] from rfl]
  have e : ∀ (p : Nat → Bool) (x : Nat) (l : List Nat), ((x :: l).filter p).length = bn (p x) + (l.filter p).length := fun p x l => by
    cases h : p x <;> simp [h, bn]; omega
  simp only [e, List.filter_nil, List.length_nil]
  show bn (hasV c ((0 : Nat) + 1 : Int)) + (bn (hasV c ((1 : Nat) + 1 : Int)) + (bn (hasV c ((2 : Nat) + 1 : Int)) + (bn (hasV c ((3 : Nat) + 1 : Int)) + (bn (hasV c ((4 : Nat) + 1 : Int)) + (bn (hasV c ((5 : Nat) + 1 : Int)) + (bn (hasV c ((6 : Nat) + 1 : Int)) + (bn (hasV c ((7 : Nat) + 1 : Int)) + 0))))))) = _
  simp only [show ((0 : Nat) + 1 : Int) = 1 from rfl, show ((1 : Nat) + 1 : Int) = 2 from rfl, show ((2 : Nat) + 1 : Int) = 3 from rfl, show ((3 : Nat) + 1 : Int) = 4 from rfl, show ((4 : Nat) + 1 : Int) = 5 from rfl, show ((5 : Nat) + 1 : Int) = 6 from rfl, show ((6 : Nat) + 1 : Int) = 7 from rfl, show ((7 : Nat) + 1 : Int) = 8 from rfl]
  omega
theorem bn_or (x y : Bool) : bn (x || y) + bn (x && y) = bn x + bn y := by cases x <;> cases y <;> rfl
theorem bn_not (x : Bool) : bn x + bn (!x) = 1 := by cases x <;> rfl
theorem together (a b : Int) : (lst (bits .or .i64 a b) 8).length + (lst (bits .and .i64 a b) 8).length = (lst a 8).length + (lst b 8).length := by
  rw [count8, count8, count8, count8]
  have o := fun (n : Nat) h1 h2 => hasV_or a b n h1 h2
  have d := fun (n : Nat) h1 h2 => hasV_and a b n h1 h2
  have o1 := o 1 (by decide) (by decide); have o2 := o 2 (by decide) (by decide); have o3 := o 3 (by decide) (by decide); have o4 := o 4 (by decide) (by decide)
  have o5 := o 5 (by decide) (by decide); have o6 := o 6 (by decide) (by decide); have o7 := o 7 (by decide) (by decide); have o8 := o 8 (by decide) (by decide)
  have d1 := d 1 (by decide) (by decide); have d2 := d 2 (by decide) (by decide); have d3 := d 3 (by decide) (by decide); have d4 := d 4 (by decide) (by decide)
  have d5 := d 5 (by decide) (by decide); have d6 := d 6 (by decide) (by decide); have d7 := d 7 (by decide) (by decide); have d8 := d 8 (by decide) (by decide)
  simp only [show ((1 : Nat) : Int) = 1 from rfl, show ((2 : Nat) : Int) = 2 from rfl, show ((3 : Nat) : Int) = 3 from rfl, show ((4 : Nat) : Int) = 4 from rfl, show ((5 : Nat) : Int) = 5 from rfl, show ((6 : Nat) : Int) = 6 from rfl, show ((7 : Nat) : Int) = 7 from rfl, show ((8 : Nat) : Int) = 8 from rfl] at o1 o2 o3 o4 o5 o6 o7 o8 d1 d2 d3 d4 d5 d6 d7 d8
  rw [o1, o2, o3, o4, o5, o6, o7, o8, d1, d2, d3, d4, d5, d6, d7, d8]
  have := bn_or (hasV a 1) (hasV b 1); have := bn_or (hasV a 2) (hasV b 2); have := bn_or (hasV a 3) (hasV b 3); have := bn_or (hasV a 4) (hasV b 4)
  have := bn_or (hasV a 5) (hasV b 5); have := bn_or (hasV a 6) (hasV b 6); have := bn_or (hasV a 7) (hasV b 7); have := bn_or (hasV a 8) (hasV b 8)
  omega
theorem apart8 (a : Int) : (lst a 8).length + (lst (bits .xor .i64 (-1) a) 8).length = 8 := by
  rw [count8, count8]
  have o := fun (n : Nat) h1 h2 => hasV_not a n h1 h2
  have o1 := o 1 (by decide) (by decide); have o2 := o 2 (by decide) (by decide); have o3 := o 3 (by decide) (by decide); have o4 := o 4 (by decide) (by decide)
  have o5 := o 5 (by decide) (by decide); have o6 := o 6 (by decide) (by decide); have o7 := o 7 (by decide) (by decide); have o8 := o 8 (by decide) (by decide)
  simp only [show ((1 : Nat) : Int) = 1 from rfl, show ((2 : Nat) : Int) = 2 from rfl, show ((3 : Nat) : Int) = 3 from rfl, show ((4 : Nat) : Int) = 4 from rfl, show ((5 : Nat) : Int) = 5 from rfl, show ((6 : Nat) : Int) = 6 from rfl, show ((7 : Nat) : Int) = 7 from rfl, show ((8 : Nat) : Int) = 8 from rfl] at o1 o2 o3 o4 o5 o6 o7 o8
  rw [o1, o2, o3, o4, o5, o6, o7, o8]
  have := bn_not (hasV a 1); have := bn_not (hasV a 2); have := bn_not (hasV a 3); have := bn_not (hasV a 4)
  have := bn_not (hasV a 5); have := bn_not (hasV a 6); have := bn_not (hasV a 7); have := bn_not (hasV a 8)
  omega

set_option maxRecDepth 100000 in
theorem together_walk (a b : Int) (w : World) (hT : TabW w) (hw0 : (Lit.int .i64 a).wf = true) (hw1 : (Lit.int .i64 b).wf = true) : Calls Tryd.prog 5 #[.int .i64 a, .int .i64 b] w fun e w' => e = .returned (.bool true) ∧ Below w.heap.size w w' := by
  have HW := hid (works_any w hT)
  have ha := wf_i64_bd hw0
  have h1 := together a b
  have h2 := apart8 a
  have C1 := hid fun W => count_any (bits .or .i64 a b) W
  have C2 := hid fun W => count_any a W
  have C3 := hid fun W => count_any b W
  have C4 := hid fun W => count_any (bits .and .i64 a b) W
  have C5 := hid fun W => count_any (bits .xor .i64 (-1) a) W
  have l2 := lst_len a 8
  have l3 := lst_len b 8
  clear hT hw0 hw1
  generalize (lst (bits .or .i64 a b) 8).length = n1 at *
  generalize (lst a 8).length = n2 at *
  generalize (lst b 8).length = n3 at *
  generalize (lst (bits .and .i64 a b) 8).length = n4 at *
  generalize (lst (bits .xor .i64 (-1) a) 8).length = n5 at *
  have e1 : (n1 : Int) = (n2 : Int) + (n3 : Int) - (n4 : Int) := by omega
  have e2 : (n2 : Int) + (n5 : Int) = 8 := by omega
  have E1 := hid e1
  clear h1 h2
  go_enter Tryd.func5, Tryd.ntmps5
  go_wp2_with fail
  refine HW.out.mono ?_
  rintro e w1 ⟨rfl, f1⟩
  go_wp2_with fail
  refine (C1.out w1).mono ?_
  rintro e w2 ⟨rfl, rfl⟩
  go_wp2_with fail
  refine (C2.out w1).mono ?_
  rintro e w2 ⟨rfl, rfl⟩
  go_wp2_with fail
  refine (C3.out w1).mono ?_
  rintro e w2 ⟨rfl, rfl⟩
  go_wp2_with fail
  refine (C4.out w1).mono ?_
  rintro e w2 ⟨rfl, rfl⟩
  go_wp2_with fail
  refine (C2.out w1).mono ?_
  rintro e w2 ⟨rfl, rfl⟩
  go_wp2_with fail
  refine (C5.out w1).mono ?_
  rintro e w2 ⟨rfl, rfl⟩
  go_wp2_with fail
  go_ret
  exact ⟨rfl, f1.below (Nat.le_refl _) (fun _ h => h.elim)⟩
end Go.Proofs.YtkdlgfjpbcgnnaaDoor
