/-
  THE PLAIN LAW OF THE CHECK OF BYTES: it goes on byte by byte, is linear, and tells any two lists apart that differ in one byte. Conditions: none; no program occurs.
-/
import Derived.RowKit
namespace Go.Proofs.Ytalbncnhmofgaaa

def poly : Nat := 3988292384
/-- One bit. -/
def f1 (x : Nat) : Nat := x / 2 ^^^ (if x % 2 = 1 then poly else 0)
def fn (k : Nat) (x : Nat) : Nat := match k with | 0 => x | k + 1 => fn k (f1 x)
/-- A byte's eight bits. -/
def f8 (x : Nat) : Nat := fn 8 x
def stepB (x : Nat) (c : Nat) : Nat := f8 (x ^^^ c)
def runB (x : Nat) (l : List Nat) : Nat := l.foldl stepB x
def crc (l : List Nat) : Nat := 4294967295 - runB 4294967295 l

theorem xor_inj {x y z : Nat} (h : x ^^^ z = y ^^^ z) : x = y := by
  have h2 : (x ^^^ z) ^^^ z = (y ^^^ z) ^^^ z := by rw [h]
  rwa [Nat.xor_assoc, Nat.xor_self, Nat.xor_zero, Nat.xor_assoc, Nat.xor_self, Nat.xor_zero] at h2
theorem xor_zero_eq {x y : Nat} (h : x ^^^ y = 0) : x = y := xor_inj (z := y) (by rw [h, Nat.xor_self])

theorem div2_xor (x y : Nat) : (x ^^^ y) / 2 = x / 2 ^^^ y / 2 := by
  have := Nat.shiftRight_xor_distrib (a := x) (b := y) (i := 1)
  simpa [Nat.shiftRight_eq_div_pow] using this
theorem mod2_xor (x y : Nat) : (x ^^^ y) % 2 = (x % 2 + y % 2) % 2 := by
  have h := Nat.testBit_xor x y 0
  simp only [Nat.testBit_zero] at h
  have h1 := Nat.mod_two_eq_zero_or_one x
  have h2 := Nat.mod_two_eq_zero_or_one y
  have h3 := Nat.mod_two_eq_zero_or_one (x ^^^ y)
  rcases h1 with h1 | h1 <;> rcases h2 with h2 | h2 <;> rcases h3 with h3 | h3 <;> simp [h1, h2, h3] at h ⊢
theorem f1_xor (x y : Nat) : f1 (x ^^^ y) = f1 x ^^^ f1 y := by
  unfold f1
  rw [div2_xor, mod2_xor]
  have h1 := Nat.mod_two_eq_zero_or_one x
  have h2 := Nat.mod_two_eq_zero_or_one y
  rcases h1 with h1 | h1 <;> rcases h2 with h2 | h2 <;> rw [h1, h2]
  · simp
  · simp [Nat.xor_assoc]
  · simp only [Nat.add_zero, Nat.one_mod, if_true, Nat.zero_ne_one, if_false, Nat.xor_zero]
    rw [Nat.xor_assoc, Nat.xor_comm (y / 2), Nat.xor_assoc]
  · simp only [Nat.reduceAdd, Nat.mod_self, Nat.zero_ne_one, if_false, if_true, Nat.xor_zero]
    rw [Nat.xor_assoc, ← Nat.xor_assoc poly, Nat.xor_comm poly, Nat.xor_assoc, Nat.xor_self, Nat.xor_zero]
theorem fn_xor (k x y : Nat) : fn k (x ^^^ y) = fn k x ^^^ fn k y := by
  induction k generalizing x y with
  | zero => rfl
  | succ k ih => unfold fn; rw [f1_xor, ih]
theorem poly_lt : poly < 2 ^ 32 := by decide
theorem f1_lt {x : Nat} (h : x < 2 ^ 32) : f1 x < 2 ^ 32 := by
  unfold f1
  refine Nat.xor_lt_two_pow (by omega) ?_
  split
  · exact poly_lt
  · decide
theorem fn_lt (k : Nat) : ∀ {x : Nat}, x < 2 ^ 32 → fn k x < 2 ^ 32 := by
  induction k with
  | zero => intro x h; exact h
  | succ k ih => intro x h; exact ih (f1_lt h)
theorem f1_zero {x : Nat} (h : x < 2 ^ 32) (hz : f1 x = 0) : x = 0 := by
  unfold f1 at hz
  split at hz
  · have he := xor_zero_eq hz
    have : poly = 3988292384 := rfl
    omega
  · simp at hz; omega
theorem fn_zero (k : Nat) : ∀ {x : Nat}, x < 2 ^ 32 → fn k x = 0 → x = 0 := by
  induction k with
  | zero => intro x _ h; exact h
  | succ k ih => intro x h hz; exact f1_zero h (ih (f1_lt h) hz)
theorem f8_xor (x y : Nat) : f8 (x ^^^ y) = f8 x ^^^ f8 y := fn_xor 8 x y
theorem f8_lt {x : Nat} (h : x < 2 ^ 32) : f8 x < 2 ^ 32 := fn_lt 8 h
theorem f8_inj {x y : Nat} (hx : x < 2 ^ 32) (hy : y < 2 ^ 32) (h : f8 x = f8 y) : x = y := by
  have h1 : f8 (x ^^^ y) = 0 := by rw [f8_xor, h, Nat.xor_self]
  exact xor_zero_eq (fn_zero 8 (Nat.xor_lt_two_pow hx hy) h1)
theorem byte32 {c : Nat} (h : c < 256) : c < 2 ^ 32 := Nat.lt_of_lt_of_le h (by decide)
theorem stepB_lt {x c : Nat} (hx : x < 2 ^ 32) (hc : c < 256) : stepB x c < 2 ^ 32 := f8_lt (Nat.xor_lt_two_pow hx (byte32 hc))
theorem runB_lt : ∀ (l : List Nat) {x : Nat}, x < 2 ^ 32 → (∀ c ∈ l, c < 256) → runB x l < 2 ^ 32 := by
  intro l
  induction l with
  | nil => intro x h _; exact h
  | cons c r ih => intro x h hc; exact ih (stepB_lt h (hc c (by simp))) (fun d hd => hc d (by simp [hd]))
theorem crc_lt (l : List Nat) : crc l < 2 ^ 32 := by unfold crc; omega
theorem runB_snoc (x : Nat) (l : List Nat) (c : Nat) : runB x (l ++ [c]) = stepB (runB x l) c := by unfold runB; rw [List.foldl_append]; rfl

/-! ### the table -/
theorem fn_shift (k : Nat) : ∀ h : Nat, fn k (h * 2 ^ k) = h := by
  induction k with
  | zero => intro h; simp [fn]
  | succ k ih =>
    intro h
    unfold fn
    have : f1 (h * 2 ^ (k + 1)) = h * 2 ^ k := by
      unfold f1
      rw [Nat.pow_succ, ← Nat.mul_assoc]
      rw [if_neg (by omega), Nat.xor_zero]; omega
    rw [this, ih]
theorem split_xor (y : Nat) : y = y % 256 ^^^ (y / 256 * 256) := by
  have h := Nat.xor_comm (y % 256) (y / 256 * 256)
  apply Nat.eq_of_testBit_eq
  intro i
  rw [Nat.testBit_xor, show (256 : Nat) = 2 ^ 8 from rfl, Nat.testBit_mod_two_pow, ← Nat.shiftLeft_eq, Nat.testBit_shiftLeft, ← Nat.shiftRight_eq_div_pow, Nat.testBit_shiftRight]
  by_cases hi : i < 8
  · have : ¬ i ≥ 8 := by omega
    simp [hi, this]
  · have h2 : i ≥ 8 := by omega
    have h3 : 8 + (i - 8) = i := by omega
    simp [hi, h2, h3]
theorem f8_table (y : Nat) : f8 y = f8 (y % 256) ^^^ y / 256 := by
  conv => lhs; rw [split_xor y]
  rw [f8_xor]
  congr 1
  exact fn_shift 8 (y / 256)
/-- What the program's round computes. -/
theorem step_table (x c : Nat) (hc : c < 256) : stepB x c = f8 (x % 256 ^^^ c) ^^^ x / 256 := by
  unfold stepB
  rw [f8_table]
  congr 1
  · congr 1
    rw [show (256 : Nat) = 2 ^ 8 from rfl, Nat.xor_mod_two_pow, Nat.mod_eq_of_lt (a := c) hc]
  · have := Nat.shiftRight_xor_distrib (a := x) (b := c) (i := 8)
    simp only [Nat.shiftRight_eq_div_pow] at this
    rw [show (256 : Nat) = 2 ^ 8 from rfl, this, Nat.div_eq_of_lt hc, Nat.xor_zero]

/-! ### linear; one byte that differs is told -/
theorem runB_inj : ∀ (l : List Nat) {x y : Nat}, x < 2 ^ 32 → y < 2 ^ 32 → (∀ c ∈ l, c < 256) → runB x l = runB y l → x = y := by
  intro l
  induction l with
  | nil => intro x y _ _ _ h; exact h
  | cons c r ih =>
    intro x y hx hy hc h
    have hc0 := hc c (by simp)
    have h1 := ih (stepB_lt hx hc0) (stepB_lt hy hc0) (fun d hd => hc d (by simp [hd])) h
    exact xor_inj (f8_inj (Nat.xor_lt_two_pow hx (byte32 hc0)) (Nat.xor_lt_two_pow hy (byte32 hc0)) h1)
theorem runB_one (p q : List Nat) {x c d : Nat} (hx : x < 2 ^ 32) (hp : ∀ e ∈ p, e < 256) (hq : ∀ e ∈ q, e < 256) (hc : c < 256) (hd : d < 256) (h : runB x (p ++ c :: q) = runB x (p ++ d :: q)) : c = d := by
  unfold runB at h
  rw [List.foldl_append, List.foldl_append] at h
  have hr : runB x p < 2 ^ 32 := runB_lt p hx hp
  have h1 := runB_inj q (stepB_lt hr hc) (stepB_lt hr hd) hq h
  have h2 := f8_inj (Nat.xor_lt_two_pow hr (byte32 hc)) (Nat.xor_lt_two_pow hr (byte32 hd)) h1
  rw [Nat.xor_comm, Nat.xor_comm _ d] at h2
  exact xor_inj h2
theorem all_bytes {p q : List Nat} {c : Nat} (hp : ∀ e ∈ p, e < 256) (hq : ∀ e ∈ q, e < 256) (hc : c < 256) : ∀ e ∈ p ++ c :: q, e < 256 := by
  intro e he
  simp only [List.mem_append, List.mem_cons] at he
  rcases he with he | rfl | he
  · exact hp e he
  · exact hc
  · exact hq e he
theorem crc_one (p q : List Nat) {c d : Nat} (hp : ∀ e ∈ p, e < 256) (hq : ∀ e ∈ q, e < 256) (hc : c < 256) (hd : d < 256) (h : crc (p ++ c :: q) = crc (p ++ d :: q)) : c = d := by
  unfold crc at h
  have h1 : runB 4294967295 (p ++ c :: q) < 2 ^ 32 := runB_lt _ (by decide) (all_bytes hp hq hc)
  have h2 : runB 4294967295 (p ++ d :: q) < 2 ^ 32 := runB_lt _ (by decide) (all_bytes hp hq hd)
  exact runB_one p q (x := 4294967295) (by decide) hp hq hc hd (by omega)
def xor3 : List Nat → List Nat → List Nat → List Nat
  | a :: l, b :: m, c :: n => (a ^^^ b ^^^ c) :: xor3 l m n
  | _, _, _ => []
theorem xor3_swap (a b c d e f : Nat) : (a ^^^ d) ^^^ (b ^^^ e) ^^^ (c ^^^ f) = (a ^^^ b ^^^ c) ^^^ (d ^^^ e ^^^ f) := by
  apply Nat.eq_of_testBit_eq
  intro i
  simp only [Nat.testBit_xor]
  cases a.testBit i <;> cases b.testBit i <;> cases c.testBit i <;> cases d.testBit i <;> cases e.testBit i <;> cases f.testBit i <;> rfl
theorem runB_three : ∀ (l m n : List Nat) (x y z : Nat), l.length = m.length → m.length = n.length → runB x l ^^^ runB y m ^^^ runB z n = runB (x ^^^ y ^^^ z) (xor3 l m n) := by
  intro l
  induction l with
  | nil => intro m n x y z h1 h2; cases m <;> cases n <;> simp_all [runB, xor3]
  | cons a l ih =>
    intro m n x y z h1 h2
    match m, n, h1, h2 with
    | b :: m, c :: n, h1, h2 =>
      unfold xor3
      show runB (stepB x a) l ^^^ runB (stepB y b) m ^^^ runB (stepB z c) n = runB (stepB (x ^^^ y ^^^ z) (a ^^^ b ^^^ c)) (xor3 l m n)
      rw [ih m n _ _ _ (by simpa using h1) (by simpa using h2)]
      congr 1
      unfold stepB
      rw [← f8_xor, ← f8_xor, xor3_swap]
theorem not32 {x : Nat} (h : x < 2 ^ 32) : 4294967295 - x = 4294967295 ^^^ x := by
  apply Nat.eq_of_testBit_eq
  intro i
  rw [Nat.testBit_xor]
  have : (4294967295 : Nat) = 2 ^ 32 - 1 := by decide
  have h2 : 4294967295 - x = 2 ^ 32 - (x + 1) := by omega
  rw [h2, Nat.testBit_two_pow_sub_succ h, this, Nat.testBit_two_pow_sub_one]
  by_cases hi : i < 32
  · simp [hi]
  · have : x.testBit i = false := Nat.testBit_lt_two_pow (Nat.lt_of_lt_of_le h (Nat.pow_le_pow_right (by decide) (by omega)))
    simp [hi, this]
theorem crc_three (l m n : List Nat) (h1 : l.length = m.length) (h2 : m.length = n.length) (hl : ∀ c ∈ l, c < 256) (hm : ∀ c ∈ m, c < 256) (hn : ∀ c ∈ n, c < 256) (hx : ∀ c ∈ xor3 l m n, c < 256) :
    crc l ^^^ crc m ^^^ crc n = crc (xor3 l m n) := by
  unfold crc
  rw [not32 (runB_lt l (by decide) hl), not32 (runB_lt m (by decide) hm), not32 (runB_lt n (by decide) hn), not32 (runB_lt _ (by decide) hx)]
  have := runB_three l m n 4294967295 4294967295 4294967295 h1 h2
  rw [xor3_swap, this]
  simp
end Go.Proofs.Ytalbncnhmofgaaa
