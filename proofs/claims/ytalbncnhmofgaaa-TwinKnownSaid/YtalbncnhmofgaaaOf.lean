/-
  WHAT Of OF sum, AND THE REFERENCE's Of, COMPUTE: the check of the bytes. Conditions: none.
-/
import Derived.Test.YtalbncnhmofgaaaSum
import Derived.Test.YtalbncnhmofgaaaVwFns
namespace Go.Proofs.Ytalbncnhmofgaaa
open Go.RowKit

def nb (zs : List Int) : List Nat := zs.map Int.toNat
theorem nb_byte {zs : List Int} (h : AllB zs) : ∀ c ∈ nb zs, c < 256 := by
  intro c hc
  simp [nb] at hc
  obtain ⟨z, hz, rfl⟩ := hc
  have := h z hz; omega
theorem nb_step (zs : List Int) (j : Nat) (h : j < zs.length) : runB 4294967295 (nb (zs.take (j + 1))) = stepB (runB 4294967295 (nb (zs.take j))) (zs.getD j 0).toNat := by
  rw [List.take_add_one, List.getElem?_eq_getElem h]
  unfold nb
  rw [List.map_append]
  simp only [Option.toList, List.map_cons, List.map_nil]
  rw [runB_snoc, getD_of h]

set_option maxRecDepth 100000 in
set_option maxHeartbeats 1000000 in
theorem of_any (v : Value) (zs : List Int) (w : World) (hv : Vw .u8 w v zs) (hb : AllB zs) :
    Calls Try.prog 68 #[v] w fun e w' => e = .returned (.int .u32 (crc (nb zs))) ∧ Fr (fun _ => False) w w' := by
  obtain ⟨i0, hi, hz0⟩ : ∃ i, Try.prog.info? 125 = some i ∧ (i.zero = some (.agg (Array.replicate 256 (.int .u32 0))) ∧ i.size = 256) := by
    have := infoTab
    cases h : Try.prog.info? 125 with
    | none => rw [h] at this; simp at this
    | some i => rw [h] at this; simp at this; exact ⟨i, rfl, by simpa using this.1, this.2⟩
  obtain ⟨hz, hsz⟩ := hz0
  obtain ⟨Z, hZ⟩ : ∃ Z : Array Value, Z = Array.replicate 256 (.int .u32 0) := ⟨_, rfl⟩
  rw [← hZ] at hz
  have hZs : Z.size = 256 := by rw [hZ]; simp
  have HZ := hid hZ
  clear hZ
  have H1 := hid hZs
  have hsz2 : (Try.prog.info? 125).map (·.size) = some tabV.size := by rw [hi, tabV_size]; simp [hsz]
  have H5 := hid hsz2
  have H3 := hid hi
  have H4 := hid hz
  clear hZs hsz hsz2 hi hz
  have hl := hv.len
  have HL := hid (runB_lt (nb zs) (x := 4294967295) (by decide) (nb_byte hb))
  have HR : Hid (∀ j, runB 4294967295 (nb (zs.take j)) < 2 ^ 32) := hid (fun j => runB_lt _ (by decide) (nb_byte (hb.take j)))
  have HB := hid hb
  have HV := hid hv
  obtain ⟨ao, cap, rfl, a1, a2, a3, a4⟩ := hv
  have A4 := hid a4
  clear a1 a2 a3 a4 hb
  go_enter Try.func68, Try.ntmps68
  go_wp2_with fail
  refine (table_any w).mono ?_
  rintro e w1 ⟨rfl, hf1⟩
  have B1 : Blk (w1.alloc (.cells Z 125)) w1.heap.size Z 125 := heap_alloc_new w1 _
  have B3 : Blk ((w1.alloc (.cells Z 125)).setRow w1.heap.size tabV) w1.heap.size tabV 125 := setRow_heap _ _ _ _ _ _ B1
  have hF2 := (hf1.alloc (.cells Z 125)).setRow (g := w1.heap.size) (.inl hf1.size) tabV
  go_wp2_with (first
    | (refine wpList_alloc_row rfl 125 rfl i0 Z H3.out H4.out ?_)
    | (refine wpList_store_row rfl 125 _ _ rfl w1.heap.size tabV rfl rfl 125 Z B1 H5.out (by rw [H1.out, tabV_size]) (Array.all_eq_true_iff_forall_mem.2 tabV_one) ?_))
  generalize (w1.alloc (.cells Z 125)).setRow w1.heap.size tabV = w2 at *
  generalize w1.heap.size = q at *
  obtain ⟨n, hn⟩ : ∃ n, n = zs.length := ⟨_, rfl⟩
  rw [← hn] at hl
  rw [← hn]
  have HN := hid hn
  clear hn B1 hf1
  go_loopw [4, 10] (fun x i wr => ∃ j : Nat, j ≤ n ∧ i = .int .i64 j ∧ x = .int .u32 (runB 4294967295 (nb (zs.take j))) ∧ wr = w2) (fun _ i _ => n - (intOf i).toNat)
  case atStart => exact ⟨0, by omega, rfl, rfl, rfl⟩
  case round =>
    obtain ⟨j, hj, rfl, rfl, rfl⟩ := hrel
    have hX := HR.out j
    by_cases hlt : j < n
    · have HS := hid (nb_step zs j (by rw [← HN.out]; exact hlt))
      obtain ⟨b, off, rfl, _, hc⟩ := A4.out j (by rw [← HN.out]; exact hlt)
      replace hc := cell_fr hF2 hc
      have hcb := HB.out.at j
      generalize zs.getD j 0 = z at *
      obtain ⟨c, rfl⟩ := Int.eq_ofNat_of_zero_le hcb.1
      have hc255 : c < 256 := by omega
      have HS2 := hid (step_table (runB 4294967295 (nb (zs.take j))) c hc255)
      clear hcb
      generalize runB 4294967295 (nb (zs.take j)) = X at *
      have e1 : bits .xor .u8 ((X : Int) % 256) (c : Int) = ((X % 256 ^^^ c : Nat) : Int) := by
        have := u8_xor_nat (X % 256) c (by omega) hc255
        rw [← this]; rfl
      have hm : X % 256 ^^^ c < 256 := Nat.xor_lt_two_pow (n := 8) (by omega) (by omega)
      generalize X % 256 ^^^ c = m at *
      have k0 := B3.cell m (tabV_at hm)
      have e2 : bits .xor .u32 ((f8 m : Nat) : Int) ((X : Int) / 256) = ((stepB X c : Nat) : Int) := by
        have := u32_xor_nat (f8 m) (X / 256) (f8_lt (by omega)) (by omega)
        rw [HS2.out, ← this]; rfl
      have HX := hid hX
      have e3 : (X : Int) % 256 % 256 = (X : Int) % 256 := by omega
      generalize f8 m = y at *
      clear hX
      go_wp2_with fail
      all_goals
        go_roundw
        case rel => exact ⟨j + 1, by omega, by go_num, by rw [HS.out, Int.toNat_natCast], by trivial⟩
        case measure => simp [intOf]; omega
    · have hjn : j = n := by omega
      have hall : zs.take j = zs := by rw [hjn, HN.out]; exact List.take_length
      have HE : Hid (((4294967295 - runB 4294967295 (nb zs) : Nat) : Int) = ((crc (nb zs) : Nat) : Int)) := hid rfl
      rw [hall]
      have HX := hid HL.out
      generalize runB 4294967295 (nb zs) = X at *
      clear hX hall
      have e1 : bits .xor .u32 IntKind.u32.max (X : Int) = ((4294967295 - X : Nat) : Int) := by
        have h1 := u32_xor_nat 4294967295 X (by decide) (by have := HX.out; omega)
        rw [not32 HX.out]; exact h1
      subst hjn
      go_wp2_with fail
      go_ret
      exact ⟨ret_int HE.out, hF2⟩
end Go.Proofs.Ytalbncnhmofgaaa
