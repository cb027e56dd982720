/-
  THE WALK OF 'MarkKnown'. Conditions: none.
-/
import Derived.Test.YtfhhcbacnlakiaaMarkWorks
import Derived.Test.YtfhhcbacnlakiaaMarkArgs
import Derived.LoopN
namespace Go.Proofs.Ytfhhcbacnlakiaa
open Go.RowKit

theorem infoErr : (Try.prog.info? 26).map (fun i => (i.zero, i.size, i.bytes)) = some (some (.int .i64 0), 1, 8) := by kernel_rfl

theorem rings_lit (v : Int) {a b c d : Int} {w : World} (h : rcmp a b c d = v) : Calls Try.prog 13 #[.agg #[.int .i64 a, .int .i64 b], .agg #[.int .i64 c, .int .i64 d]] w fun e w' => e = .returned (.int .i64 v) ∧ Fr (fun _ => False) w w' := h ▸ rings_any a b c d w
theorem keys_lit (v : Int) {s a b q t c d r : Int} {w : World} (h : kcmp s a b q t c d r = v) : Calls Try.prog 15 #[.agg #[.int .i64 s, .int .i64 a, .int .i64 b, .int .i64 q], .agg #[.int .i64 t, .int .i64 c, .int .i64 d, .int .i64 r]] w fun e w' => e = .returned (.int .i64 v) ∧ Fr (fun _ => False) w w' := h ▸ keys_any s a b q t c d r w
theorem check_lit (v : Int) {s a b q : Int} {w : World} (h : erOf (okKey s a b q) = v) : Calls Try.prog 11 #[.agg #[.int .i64 s, .int .i64 a, .int .i64 b, .int .i64 q]] w fun e w' => e = .returned (.int .i64 v) ∧ Fr (fun _ => False) w w' := h ▸ check_any s a b q w
theorem checkring_lit (v : Int) {a b : Int} {w : World} (h : erOf (okRing a b) = v) : Calls Try.prog 9 #[.agg #[.int .i64 a, .int .i64 b]] w fun e w' => e = .returned (.int .i64 v) ∧ Fr (fun _ => False) w w' := h ▸ checkring_any a b w
theorem pack_lit (x y v : Int) {s a b q : Int} {w : World} (h : packOf s a b q = (x, y, v)) : Calls Try.prog 18 #[.agg #[.int .i64 s, .int .i64 a, .int .i64 b, .int .i64 q]] w fun e w' => e = .returned (.tuple #[.agg #[.int .u64 x, .int .u64 y], .int .i64 v]) ∧ Fr (fun _ => False) w w' := by
  have := pack_any s a b q w
  rw [h] at this; exact this

theorem unpack_lit (x y s a b q v : Int) {w : World} (h0 : 0 ≤ x) (h1 : x < 18446744073709551616) (h2 : 0 ≤ y) (h3 : y < 18446744073709551616) (h : (if uOk x y then (uS x, uA x y, uB y, uQ y, (0 : Int)) else (0, 0, 0, 0, 2)) = (s, a, b, q, v)) :
    Calls Try.prog 20 #[.agg #[.int .u64 x, .int .u64 y]] w fun e w' => e = .returned (.tuple #[.agg #[.int .i64 s, .int .i64 a, .int .i64 b, .int .i64 q], .int .i64 v]) ∧ Fr (fun _ => False) w w' := by
  have := unpack_any x y w ⟨h0, h1⟩ ⟨h2, h3⟩
  unfold unpV at this
  split at h
  · rename_i hu
    rw [if_pos hu] at this
    simp only [Prod.mk.injEq] at h
    obtain ⟨rfl, rfl, rfl, rfl, rfl⟩ := h; exact this
  · rename_i hu
    rw [if_neg hu] at this
    simp only [Prod.mk.injEq] at h
    obtain ⟨rfl, rfl, rfl, rfl, rfl⟩ := h; exact this

set_option maxRecDepth 100000 in
set_option maxHeartbeats 8000000 in
theorem known_walk (w : World) : Calls Try.prog 8 #[] w fun e w' => e = .returned (.bool true) ∧ Below w.heap.size w w' := by
  go_enter Try.func8, Try.ntmps8
  have HF := Fr.refl (fun _ => False) w
  go_wp2_with fail
  refine (rings_lit (1) (by decide)).mono ?_
  rintro e A1 ⟨rfl, f⟩
  replace HF := HF.trans f
  clear f
  go_wp2_with fail
  refine (rings_lit (-1) (by decide)).mono ?_
  rintro e A2 ⟨rfl, f⟩
  replace HF := HF.trans f
  clear f
  go_wp2_with fail
  refine (rings_lit (0) (by decide)).mono ?_
  rintro e A3 ⟨rfl, f⟩
  replace HF := HF.trans f
  clear f
  go_wp2_with fail
  refine (key_any _ _ _ _ _).mono ?_
  rintro e A4 ⟨rfl, f⟩
  replace HF := HF.trans f
  clear f
  go_wp2_with fail
  refine (key_any _ _ _ _ _).mono ?_
  rintro e A5 ⟨rfl, f⟩
  replace HF := HF.trans f
  clear f
  go_wp2_with fail
  refine (keys_lit (-1) (by decide)).mono ?_
  rintro e A6 ⟨rfl, f⟩
  replace HF := HF.trans f
  clear f
  go_wp2_with fail
  refine (rings_lit (1) (by decide)).mono ?_
  rintro e A7 ⟨rfl, f⟩
  replace HF := HF.trans f
  clear f
  go_wp2_with fail
  refine (key_any _ _ _ _ _).mono ?_
  rintro e A8 ⟨rfl, f⟩
  replace HF := HF.trans f
  clear f
  go_wp2_with fail
  refine (key_any _ _ _ _ _).mono ?_
  rintro e A9 ⟨rfl, f⟩
  replace HF := HF.trans f
  clear f
  go_wp2_with fail
  refine (keys_lit (-1) (by decide)).mono ?_
  rintro e A10 ⟨rfl, f⟩
  replace HF := HF.trans f
  clear f
  go_wp2_with fail
  have RS := Blk.new A10 #[(.int .i64 0), (.int .i64 1), (.int .i64 1), (.int .i64 0), (.int .i64 1), (.int .i64 9), (.int .i64 (-1)), (.int .i64 1), (.int .i64 9007199254740992), (.int .i64 1), (.int .i64 1), (.int .i64 (-1))] 23
  replace HF := HF.alloc (.cells #[(.int .i64 0), (.int .i64 1), (.int .i64 1), (.int .i64 0), (.int .i64 1), (.int .i64 9), (.int .i64 (-1)), (.int .i64 1), (.int .i64 9007199254740992), (.int .i64 1), (.int .i64 1), (.int .i64 (-1))] 23)
  refine wp_loop_rounds 7 ?_
  rw [rounds_succ]
  have RS_0 := RS.cell 0 (v := (.int .i64 0)) rfl
  have RS_1 := RS.cell 1 (v := (.int .i64 1)) rfl
  have RS_2 := RS.cell 2 (v := (.int .i64 1)) rfl
  have RS_3 := RS.cell 3 (v := (.int .i64 0)) rfl
  have RS_4 := RS.cell 4 (v := (.int .i64 1)) rfl
  have RS_5 := RS.cell 5 (v := (.int .i64 9)) rfl
  have RS_6 := RS.cell 6 (v := (.int .i64 (-1))) rfl
  have RS_7 := RS.cell 7 (v := (.int .i64 1)) rfl
  have RS_8 := RS.cell 8 (v := (.int .i64 9007199254740992)) rfl
  have RS_9 := RS.cell 9 (v := (.int .i64 1)) rfl
  have RS_10 := RS.cell 10 (v := (.int .i64 1)) rfl
  have RS_11 := RS.cell 11 (v := (.int .i64 (-1))) rfl
  have RS_z := RS.lt
  have RS_f := RS.free
  go_wp2_with fail
  replace RS := RS.alloc (.cells #[(.int .i64 0), (.int .i64 1)] 23)
  have RR := Blk.new (A10.alloc (.cells #[(.int .i64 0), (.int .i64 1), (.int .i64 1), (.int .i64 0), (.int .i64 1), (.int .i64 9), (.int .i64 (-1)), (.int .i64 1), (.int .i64 9007199254740992), (.int .i64 1), (.int .i64 1), (.int .i64 (-1))] 23)) #[(.int .i64 0), (.int .i64 1)] 23
  replace HF := HF.alloc (.cells #[(.int .i64 0), (.int .i64 1)] 23)
  rw [World.size_alloc] at RR
  refine (checkring_lit 2 (by decide)).mono ?_
  rintro e A11 ⟨rfl, f⟩
  replace RS := RS.keep f (fun h => h)
  replace RR := RR.keep f (fun h => h)
  replace HF := HF.trans f
  clear f
  have RR_0 := RR.cell 0 (v := (.int .i64 0)) rfl
  have RR_1 := RR.cell 1 (v := (.int .i64 1)) rfl
  have RR_z := RR.lt
  have RR_f := RR.free
  go_wp2_with fail
  refine (check_lit (2) (by decide)).mono ?_
  rintro e A12 ⟨rfl, f⟩
  replace RS := RS.keep f (fun h => h)
  replace RR := RR.keep f (fun h => h)
  replace HF := HF.trans f
  clear f
  clear RR
  clear RR_z
  clear RR_f
  clear RR_0
  clear RR_1
  replace RS_0 := RS.cell 0 (v := (.int .i64 0)) rfl
  replace RS_1 := RS.cell 1 (v := (.int .i64 1)) rfl
  replace RS_2 := RS.cell 2 (v := (.int .i64 1)) rfl
  replace RS_3 := RS.cell 3 (v := (.int .i64 0)) rfl
  replace RS_4 := RS.cell 4 (v := (.int .i64 1)) rfl
  replace RS_5 := RS.cell 5 (v := (.int .i64 9)) rfl
  replace RS_6 := RS.cell 6 (v := (.int .i64 (-1))) rfl
  replace RS_7 := RS.cell 7 (v := (.int .i64 1)) rfl
  replace RS_8 := RS.cell 8 (v := (.int .i64 9007199254740992)) rfl
  replace RS_9 := RS.cell 9 (v := (.int .i64 1)) rfl
  replace RS_10 := RS.cell 10 (v := (.int .i64 1)) rfl
  replace RS_11 := RS.cell 11 (v := (.int .i64 (-1))) rfl
  replace RS_z := RS.lt
  replace RS_f := RS.free
  go_wp2_with fail
  rw [rounds_succ]
  replace RS_0 := RS.cell 0 (v := (.int .i64 0)) rfl
  replace RS_1 := RS.cell 1 (v := (.int .i64 1)) rfl
  replace RS_2 := RS.cell 2 (v := (.int .i64 1)) rfl
  replace RS_3 := RS.cell 3 (v := (.int .i64 0)) rfl
  replace RS_4 := RS.cell 4 (v := (.int .i64 1)) rfl
  replace RS_5 := RS.cell 5 (v := (.int .i64 9)) rfl
  replace RS_6 := RS.cell 6 (v := (.int .i64 (-1))) rfl
  replace RS_7 := RS.cell 7 (v := (.int .i64 1)) rfl
  replace RS_8 := RS.cell 8 (v := (.int .i64 9007199254740992)) rfl
  replace RS_9 := RS.cell 9 (v := (.int .i64 1)) rfl
  replace RS_10 := RS.cell 10 (v := (.int .i64 1)) rfl
  replace RS_11 := RS.cell 11 (v := (.int .i64 (-1))) rfl
  replace RS_z := RS.lt
  replace RS_f := RS.free
  go_wp2_with fail
  replace RS := RS.alloc (.cells #[(.int .i64 1), (.int .i64 0)] 23)
  have RR := Blk.new A12 #[(.int .i64 1), (.int .i64 0)] 23
  replace HF := HF.alloc (.cells #[(.int .i64 1), (.int .i64 0)] 23)
  refine (checkring_lit 2 (by decide)).mono ?_
  rintro e A13 ⟨rfl, f⟩
  replace RS := RS.keep f (fun h => h)
  replace RR := RR.keep f (fun h => h)
  replace HF := HF.trans f
  clear f
  have RR_0 := RR.cell 0 (v := (.int .i64 1)) rfl
  have RR_1 := RR.cell 1 (v := (.int .i64 0)) rfl
  have RR_z := RR.lt
  have RR_f := RR.free
  go_wp2_with fail
  refine (check_lit (2) (by decide)).mono ?_
  rintro e A14 ⟨rfl, f⟩
  replace RS := RS.keep f (fun h => h)
  replace RR := RR.keep f (fun h => h)
  replace HF := HF.trans f
  clear f
  clear RR
  clear RR_z
  clear RR_f
  clear RR_0
  clear RR_1
  replace RS_0 := RS.cell 0 (v := (.int .i64 0)) rfl
  replace RS_1 := RS.cell 1 (v := (.int .i64 1)) rfl
  replace RS_2 := RS.cell 2 (v := (.int .i64 1)) rfl
  replace RS_3 := RS.cell 3 (v := (.int .i64 0)) rfl
  replace RS_4 := RS.cell 4 (v := (.int .i64 1)) rfl
  replace RS_5 := RS.cell 5 (v := (.int .i64 9)) rfl
  replace RS_6 := RS.cell 6 (v := (.int .i64 (-1))) rfl
  replace RS_7 := RS.cell 7 (v := (.int .i64 1)) rfl
  replace RS_8 := RS.cell 8 (v := (.int .i64 9007199254740992)) rfl
  replace RS_9 := RS.cell 9 (v := (.int .i64 1)) rfl
  replace RS_10 := RS.cell 10 (v := (.int .i64 1)) rfl
  replace RS_11 := RS.cell 11 (v := (.int .i64 (-1))) rfl
  replace RS_z := RS.lt
  replace RS_f := RS.free
  go_wp2_with fail
  rw [rounds_succ]
  replace RS_0 := RS.cell 0 (v := (.int .i64 0)) rfl
  replace RS_1 := RS.cell 1 (v := (.int .i64 1)) rfl
  replace RS_2 := RS.cell 2 (v := (.int .i64 1)) rfl
  replace RS_3 := RS.cell 3 (v := (.int .i64 0)) rfl
  replace RS_4 := RS.cell 4 (v := (.int .i64 1)) rfl
  replace RS_5 := RS.cell 5 (v := (.int .i64 9)) rfl
  replace RS_6 := RS.cell 6 (v := (.int .i64 (-1))) rfl
  replace RS_7 := RS.cell 7 (v := (.int .i64 1)) rfl
  replace RS_8 := RS.cell 8 (v := (.int .i64 9007199254740992)) rfl
  replace RS_9 := RS.cell 9 (v := (.int .i64 1)) rfl
  replace RS_10 := RS.cell 10 (v := (.int .i64 1)) rfl
  replace RS_11 := RS.cell 11 (v := (.int .i64 (-1))) rfl
  replace RS_z := RS.lt
  replace RS_f := RS.free
  go_wp2_with fail
  replace RS := RS.alloc (.cells #[(.int .i64 1), (.int .i64 9)] 23)
  have RR := Blk.new A14 #[(.int .i64 1), (.int .i64 9)] 23
  replace HF := HF.alloc (.cells #[(.int .i64 1), (.int .i64 9)] 23)
  refine (checkring_lit 2 (by decide)).mono ?_
  rintro e A15 ⟨rfl, f⟩
  replace RS := RS.keep f (fun h => h)
  replace RR := RR.keep f (fun h => h)
  replace HF := HF.trans f
  clear f
  have RR_0 := RR.cell 0 (v := (.int .i64 1)) rfl
  have RR_1 := RR.cell 1 (v := (.int .i64 9)) rfl
  have RR_z := RR.lt
  have RR_f := RR.free
  go_wp2_with fail
  refine (check_lit (2) (by decide)).mono ?_
  rintro e A16 ⟨rfl, f⟩
  replace RS := RS.keep f (fun h => h)
  replace RR := RR.keep f (fun h => h)
  replace HF := HF.trans f
  clear f
  clear RR
  clear RR_z
  clear RR_f
  clear RR_0
  clear RR_1
  replace RS_0 := RS.cell 0 (v := (.int .i64 0)) rfl
  replace RS_1 := RS.cell 1 (v := (.int .i64 1)) rfl
  replace RS_2 := RS.cell 2 (v := (.int .i64 1)) rfl
  replace RS_3 := RS.cell 3 (v := (.int .i64 0)) rfl
  replace RS_4 := RS.cell 4 (v := (.int .i64 1)) rfl
  replace RS_5 := RS.cell 5 (v := (.int .i64 9)) rfl
  replace RS_6 := RS.cell 6 (v := (.int .i64 (-1))) rfl
  replace RS_7 := RS.cell 7 (v := (.int .i64 1)) rfl
  replace RS_8 := RS.cell 8 (v := (.int .i64 9007199254740992)) rfl
  replace RS_9 := RS.cell 9 (v := (.int .i64 1)) rfl
  replace RS_10 := RS.cell 10 (v := (.int .i64 1)) rfl
  replace RS_11 := RS.cell 11 (v := (.int .i64 (-1))) rfl
  replace RS_z := RS.lt
  replace RS_f := RS.free
  go_wp2_with fail
  rw [rounds_succ]
  replace RS_0 := RS.cell 0 (v := (.int .i64 0)) rfl
  replace RS_1 := RS.cell 1 (v := (.int .i64 1)) rfl
  replace RS_2 := RS.cell 2 (v := (.int .i64 1)) rfl
  replace RS_3 := RS.cell 3 (v := (.int .i64 0)) rfl
  replace RS_4 := RS.cell 4 (v := (.int .i64 1)) rfl
  replace RS_5 := RS.cell 5 (v := (.int .i64 9)) rfl
  replace RS_6 := RS.cell 6 (v := (.int .i64 (-1))) rfl
  replace RS_7 := RS.cell 7 (v := (.int .i64 1)) rfl
  replace RS_8 := RS.cell 8 (v := (.int .i64 9007199254740992)) rfl
  replace RS_9 := RS.cell 9 (v := (.int .i64 1)) rfl
  replace RS_10 := RS.cell 10 (v := (.int .i64 1)) rfl
  replace RS_11 := RS.cell 11 (v := (.int .i64 (-1))) rfl
  replace RS_z := RS.lt
  replace RS_f := RS.free
  go_wp2_with fail
  replace RS := RS.alloc (.cells #[(.int .i64 (-1)), (.int .i64 1)] 23)
  have RR := Blk.new A16 #[(.int .i64 (-1)), (.int .i64 1)] 23
  replace HF := HF.alloc (.cells #[(.int .i64 (-1)), (.int .i64 1)] 23)
  refine (checkring_lit 2 (by decide)).mono ?_
  rintro e A17 ⟨rfl, f⟩
  replace RS := RS.keep f (fun h => h)
  replace RR := RR.keep f (fun h => h)
  replace HF := HF.trans f
  clear f
  have RR_0 := RR.cell 0 (v := (.int .i64 (-1))) rfl
  have RR_1 := RR.cell 1 (v := (.int .i64 1)) rfl
  have RR_z := RR.lt
  have RR_f := RR.free
  go_wp2_with fail
  refine (check_lit (2) (by decide)).mono ?_
  rintro e A18 ⟨rfl, f⟩
  replace RS := RS.keep f (fun h => h)
  replace RR := RR.keep f (fun h => h)
  replace HF := HF.trans f
  clear f
  clear RR
  clear RR_z
  clear RR_f
  clear RR_0
  clear RR_1
  replace RS_0 := RS.cell 0 (v := (.int .i64 0)) rfl
  replace RS_1 := RS.cell 1 (v := (.int .i64 1)) rfl
  replace RS_2 := RS.cell 2 (v := (.int .i64 1)) rfl
  replace RS_3 := RS.cell 3 (v := (.int .i64 0)) rfl
  replace RS_4 := RS.cell 4 (v := (.int .i64 1)) rfl
  replace RS_5 := RS.cell 5 (v := (.int .i64 9)) rfl
  replace RS_6 := RS.cell 6 (v := (.int .i64 (-1))) rfl
  replace RS_7 := RS.cell 7 (v := (.int .i64 1)) rfl
  replace RS_8 := RS.cell 8 (v := (.int .i64 9007199254740992)) rfl
  replace RS_9 := RS.cell 9 (v := (.int .i64 1)) rfl
  replace RS_10 := RS.cell 10 (v := (.int .i64 1)) rfl
  replace RS_11 := RS.cell 11 (v := (.int .i64 (-1))) rfl
  replace RS_z := RS.lt
  replace RS_f := RS.free
  go_wp2_with fail
  rw [rounds_succ]
  replace RS_0 := RS.cell 0 (v := (.int .i64 0)) rfl
  replace RS_1 := RS.cell 1 (v := (.int .i64 1)) rfl
  replace RS_2 := RS.cell 2 (v := (.int .i64 1)) rfl
  replace RS_3 := RS.cell 3 (v := (.int .i64 0)) rfl
  replace RS_4 := RS.cell 4 (v := (.int .i64 1)) rfl
  replace RS_5 := RS.cell 5 (v := (.int .i64 9)) rfl
  replace RS_6 := RS.cell 6 (v := (.int .i64 (-1))) rfl
  replace RS_7 := RS.cell 7 (v := (.int .i64 1)) rfl
  replace RS_8 := RS.cell 8 (v := (.int .i64 9007199254740992)) rfl
  replace RS_9 := RS.cell 9 (v := (.int .i64 1)) rfl
  replace RS_10 := RS.cell 10 (v := (.int .i64 1)) rfl
  replace RS_11 := RS.cell 11 (v := (.int .i64 (-1))) rfl
  replace RS_z := RS.lt
  replace RS_f := RS.free
  go_wp2_with fail
  replace RS := RS.alloc (.cells #[(.int .i64 9007199254740992), (.int .i64 1)] 23)
  have RR := Blk.new A18 #[(.int .i64 9007199254740992), (.int .i64 1)] 23
  replace HF := HF.alloc (.cells #[(.int .i64 9007199254740992), (.int .i64 1)] 23)
  refine (checkring_lit 2 (by decide)).mono ?_
  rintro e A19 ⟨rfl, f⟩
  replace RS := RS.keep f (fun h => h)
  replace RR := RR.keep f (fun h => h)
  replace HF := HF.trans f
  clear f
  have RR_0 := RR.cell 0 (v := (.int .i64 9007199254740992)) rfl
  have RR_1 := RR.cell 1 (v := (.int .i64 1)) rfl
  have RR_z := RR.lt
  have RR_f := RR.free
  go_wp2_with fail
  refine (check_lit (2) (by decide)).mono ?_
  rintro e A20 ⟨rfl, f⟩
  replace RS := RS.keep f (fun h => h)
  replace RR := RR.keep f (fun h => h)
  replace HF := HF.trans f
  clear f
  clear RR
  clear RR_z
  clear RR_f
  clear RR_0
  clear RR_1
  replace RS_0 := RS.cell 0 (v := (.int .i64 0)) rfl
  replace RS_1 := RS.cell 1 (v := (.int .i64 1)) rfl
  replace RS_2 := RS.cell 2 (v := (.int .i64 1)) rfl
  replace RS_3 := RS.cell 3 (v := (.int .i64 0)) rfl
  replace RS_4 := RS.cell 4 (v := (.int .i64 1)) rfl
  replace RS_5 := RS.cell 5 (v := (.int .i64 9)) rfl
  replace RS_6 := RS.cell 6 (v := (.int .i64 (-1))) rfl
  replace RS_7 := RS.cell 7 (v := (.int .i64 1)) rfl
  replace RS_8 := RS.cell 8 (v := (.int .i64 9007199254740992)) rfl
  replace RS_9 := RS.cell 9 (v := (.int .i64 1)) rfl
  replace RS_10 := RS.cell 10 (v := (.int .i64 1)) rfl
  replace RS_11 := RS.cell 11 (v := (.int .i64 (-1))) rfl
  replace RS_z := RS.lt
  replace RS_f := RS.free
  go_wp2_with fail
  rw [rounds_succ]
  replace RS_0 := RS.cell 0 (v := (.int .i64 0)) rfl
  replace RS_1 := RS.cell 1 (v := (.int .i64 1)) rfl
  replace RS_2 := RS.cell 2 (v := (.int .i64 1)) rfl
  replace RS_3 := RS.cell 3 (v := (.int .i64 0)) rfl
  replace RS_4 := RS.cell 4 (v := (.int .i64 1)) rfl
  replace RS_5 := RS.cell 5 (v := (.int .i64 9)) rfl
  replace RS_6 := RS.cell 6 (v := (.int .i64 (-1))) rfl
  replace RS_7 := RS.cell 7 (v := (.int .i64 1)) rfl
  replace RS_8 := RS.cell 8 (v := (.int .i64 9007199254740992)) rfl
  replace RS_9 := RS.cell 9 (v := (.int .i64 1)) rfl
  replace RS_10 := RS.cell 10 (v := (.int .i64 1)) rfl
  replace RS_11 := RS.cell 11 (v := (.int .i64 (-1))) rfl
  replace RS_z := RS.lt
  replace RS_f := RS.free
  go_wp2_with fail
  replace RS := RS.alloc (.cells #[(.int .i64 1), (.int .i64 (-1))] 23)
  have RR := Blk.new A20 #[(.int .i64 1), (.int .i64 (-1))] 23
  replace HF := HF.alloc (.cells #[(.int .i64 1), (.int .i64 (-1))] 23)
  refine (checkring_lit 2 (by decide)).mono ?_
  rintro e A21 ⟨rfl, f⟩
  replace RS := RS.keep f (fun h => h)
  replace RR := RR.keep f (fun h => h)
  replace HF := HF.trans f
  clear f
  have RR_0 := RR.cell 0 (v := (.int .i64 1)) rfl
  have RR_1 := RR.cell 1 (v := (.int .i64 (-1))) rfl
  have RR_z := RR.lt
  have RR_f := RR.free
  go_wp2_with fail
  refine (check_lit (2) (by decide)).mono ?_
  rintro e A22 ⟨rfl, f⟩
  replace RS := RS.keep f (fun h => h)
  replace RR := RR.keep f (fun h => h)
  replace HF := HF.trans f
  clear f
  clear RR
  clear RR_z
  clear RR_f
  clear RR_0
  clear RR_1
  replace RS_0 := RS.cell 0 (v := (.int .i64 0)) rfl
  replace RS_1 := RS.cell 1 (v := (.int .i64 1)) rfl
  replace RS_2 := RS.cell 2 (v := (.int .i64 1)) rfl
  replace RS_3 := RS.cell 3 (v := (.int .i64 0)) rfl
  replace RS_4 := RS.cell 4 (v := (.int .i64 1)) rfl
  replace RS_5 := RS.cell 5 (v := (.int .i64 9)) rfl
  replace RS_6 := RS.cell 6 (v := (.int .i64 (-1))) rfl
  replace RS_7 := RS.cell 7 (v := (.int .i64 1)) rfl
  replace RS_8 := RS.cell 8 (v := (.int .i64 9007199254740992)) rfl
  replace RS_9 := RS.cell 9 (v := (.int .i64 1)) rfl
  replace RS_10 := RS.cell 10 (v := (.int .i64 1)) rfl
  replace RS_11 := RS.cell 11 (v := (.int .i64 (-1))) rfl
  replace RS_z := RS.lt
  replace RS_f := RS.free
  go_wp2_with fail
  rw [rounds_succ]
  clear RS
  clear RS_z
  clear RS_f
  clear RS_0
  clear RS_1
  clear RS_2
  clear RS_3
  clear RS_4
  clear RS_5
  clear RS_6
  clear RS_7
  clear RS_8
  clear RS_9
  clear RS_10
  clear RS_11
  go_wp2_with fail
  refine (checkring_lit (0) (by decide)).mono ?_
  rintro e A23 ⟨rfl, f⟩
  replace HF := HF.trans f
  clear f
  go_wp2_with fail
  refine (checkring_lit (0) (by decide)).mono ?_
  rintro e A24 ⟨rfl, f⟩
  replace HF := HF.trans f
  clear f
  go_wp2_with fail
  refine (key_any _ _ _ _ _).mono ?_
  rintro e A25 ⟨rfl, f⟩
  replace HF := HF.trans f
  clear f
  go_wp2_with fail
  refine (check_lit (2) (by decide)).mono ?_
  rintro e A26 ⟨rfl, f⟩
  replace HF := HF.trans f
  clear f
  go_wp2_with fail
  refine (key_any _ _ _ _ _).mono ?_
  rintro e A27 ⟨rfl, f⟩
  replace HF := HF.trans f
  clear f
  go_wp2_with fail
  refine (check_lit (2) (by decide)).mono ?_
  rintro e A28 ⟨rfl, f⟩
  replace HF := HF.trans f
  clear f
  go_wp2_with fail
  refine (key_any _ _ _ _ _).mono ?_
  rintro e A29 ⟨rfl, f⟩
  replace HF := HF.trans f
  clear f
  go_wp2_with fail
  refine (check_lit (0) (by decide)).mono ?_
  rintro e A30 ⟨rfl, f⟩
  replace HF := HF.trans f
  clear f
  go_wp2_with fail
  refine (key_any _ _ _ _ _).mono ?_
  rintro e A31 ⟨rfl, f⟩
  replace HF := HF.trans f
  clear f
  go_wp2_with fail
  refine (check_lit (2) (by decide)).mono ?_
  rintro e A32 ⟨rfl, f⟩
  replace HF := HF.trans f
  clear f
  go_wp2_with fail
  refine (key_any _ _ _ _ _).mono ?_
  rintro e A33 ⟨rfl, f⟩
  replace HF := HF.trans f
  clear f
  go_wp2_with fail
  refine (check_lit (2) (by decide)).mono ?_
  rintro e A34 ⟨rfl, f⟩
  replace HF := HF.trans f
  clear f
  go_wp2_with fail
  refine (key_any _ _ _ _ _).mono ?_
  rintro e A35 ⟨rfl, f⟩
  replace HF := HF.trans f
  clear f
  go_wp2_with fail
  refine (key_any _ _ _ _ _).mono ?_
  rintro e A36 ⟨rfl, f⟩
  replace HF := HF.trans f
  clear f
  go_wp2_with fail
  refine (key_any _ _ _ _ _).mono ?_
  rintro e A37 ⟨rfl, f⟩
  replace HF := HF.trans f
  clear f
  go_wp2_with fail
  refine (key_any _ _ _ _ _).mono ?_
  rintro e A38 ⟨rfl, f⟩
  replace HF := HF.trans f
  clear f
  go_wp2_with fail
  refine (key_any _ _ _ _ _).mono ?_
  rintro e A39 ⟨rfl, f⟩
  replace HF := HF.trans f
  clear f
  go_wp2_with fail
  have KS := Blk.new A39 #[(.int .i64 1099511627776), (.int .i64 0), (.int .i64 0), (.int .i64 0), (.int .i64 0), (.int .i64 1099511627776), (.int .i64 1), (.int .i64 0), (.int .i64 0), (.int .i64 0), (.int .i64 0), (.int .i64 68719476736), (.int .i64 1099511627775), (.int .i64 1099511627775), (.int .i64 8), (.int .i64 68719476735), (.int .i64 1099511627776), (.int .i64 0), (.int .i64 1), (.int .i64 0), (.int .i64 0), (.int .i64 0), (.int .i64 0), (.int .i64 0)] 25
  replace HF := HF.alloc (.cells #[(.int .i64 1099511627776), (.int .i64 0), (.int .i64 0), (.int .i64 0), (.int .i64 0), (.int .i64 1099511627776), (.int .i64 1), (.int .i64 0), (.int .i64 0), (.int .i64 0), (.int .i64 0), (.int .i64 68719476736), (.int .i64 1099511627775), (.int .i64 1099511627775), (.int .i64 8), (.int .i64 68719476735), (.int .i64 1099511627776), (.int .i64 0), (.int .i64 1), (.int .i64 0), (.int .i64 0), (.int .i64 0), (.int .i64 0), (.int .i64 0)] 25)
  obtain ⟨ie, hie, hz0, hz1, hz2⟩ := info_parts infoErr
  have HR := World.ownsRow_nil (A39.alloc (.cells #[(.int .i64 1099511627776), (.int .i64 0), (.int .i64 0), (.int .i64 0), (.int .i64 0), (.int .i64 1099511627776), (.int .i64 1), (.int .i64 0), (.int .i64 0), (.int .i64 0), (.int .i64 0), (.int .i64 68719476736), (.int .i64 1099511627775), (.int .i64 1099511627775), (.int .i64 8), (.int .i64 68719476735), (.int .i64 1099511627776), (.int .i64 0), (.int .i64 1), (.int .i64 0), (.int .i64 0), (.int .i64 0), (.int .i64 0), (.int .i64 0)] 25)) 0 26 1
  have HG : Above w.heap.size (footOf (.slice none 0 0)) := by intro k hk; simp [footOf, Value.ownBlock] at hk
  refine wp_loop_rounds 7 ?_
  rw [rounds_succ]
  have KS_0 := KS.cell 0 (v := (.int .i64 1099511627776)) rfl
  have KS_1 := KS.cell 1 (v := (.int .i64 0)) rfl
  have KS_2 := KS.cell 2 (v := (.int .i64 0)) rfl
  have KS_3 := KS.cell 3 (v := (.int .i64 0)) rfl
  have KS_4 := KS.cell 4 (v := (.int .i64 0)) rfl
  have KS_5 := KS.cell 5 (v := (.int .i64 1099511627776)) rfl
  have KS_6 := KS.cell 6 (v := (.int .i64 1)) rfl
  have KS_7 := KS.cell 7 (v := (.int .i64 0)) rfl
  have KS_8 := KS.cell 8 (v := (.int .i64 0)) rfl
  have KS_9 := KS.cell 9 (v := (.int .i64 0)) rfl
  have KS_10 := KS.cell 10 (v := (.int .i64 0)) rfl
  have KS_11 := KS.cell 11 (v := (.int .i64 68719476736)) rfl
  have KS_12 := KS.cell 12 (v := (.int .i64 1099511627775)) rfl
  have KS_13 := KS.cell 13 (v := (.int .i64 1099511627775)) rfl
  have KS_14 := KS.cell 14 (v := (.int .i64 8)) rfl
  have KS_15 := KS.cell 15 (v := (.int .i64 68719476735)) rfl
  have KS_16 := KS.cell 16 (v := (.int .i64 1099511627776)) rfl
  have KS_17 := KS.cell 17 (v := (.int .i64 0)) rfl
  have KS_18 := KS.cell 18 (v := (.int .i64 1)) rfl
  have KS_19 := KS.cell 19 (v := (.int .i64 0)) rfl
  have KS_20 := KS.cell 20 (v := (.int .i64 0)) rfl
  have KS_21 := KS.cell 21 (v := (.int .i64 0)) rfl
  have KS_22 := KS.cell 22 (v := (.int .i64 0)) rfl
  have KS_23 := KS.cell 23 (v := (.int .i64 0)) rfl
  have KS_z := KS.lt
  have KS_f := KS.free
  go_wp2_with fail
  replace KS := KS.alloc (.cells #[(.int .i64 1099511627776), (.int .i64 0), (.int .i64 0), (.int .i64 0)] 25)
  have KK := Blk.new (A39.alloc (.cells #[(.int .i64 1099511627776), (.int .i64 0), (.int .i64 0), (.int .i64 0), (.int .i64 0), (.int .i64 1099511627776), (.int .i64 1), (.int .i64 0), (.int .i64 0), (.int .i64 0), (.int .i64 0), (.int .i64 68719476736), (.int .i64 1099511627775), (.int .i64 1099511627775), (.int .i64 8), (.int .i64 68719476735), (.int .i64 1099511627776), (.int .i64 0), (.int .i64 1), (.int .i64 0), (.int .i64 0), (.int .i64 0), (.int .i64 0), (.int .i64 0)] 25)) #[(.int .i64 1099511627776), (.int .i64 0), (.int .i64 0), (.int .i64 0)] 25
  replace HF := HF.alloc (.cells #[(.int .i64 1099511627776), (.int .i64 0), (.int .i64 0), (.int .i64 0)] 25)
  rw [World.size_alloc] at KK
  have HR := HR.alloc (.cells #[(.int .i64 1099511627776), (.int .i64 0), (.int .i64 0), (.int .i64 0)] 25)
  have KK_0 := KK.cell 0 (v := (.int .i64 1099511627776)) rfl
  have KK_1 := KK.cell 1 (v := (.int .i64 0)) rfl
  have KK_2 := KK.cell 2 (v := (.int .i64 0)) rfl
  have KK_3 := KK.cell 3 (v := (.int .i64 0)) rfl
  have KK_z := KK.lt
  have KK_f := KK.free
  refine (pack_lit 0 0 9 (by decide)).mono ?_
  rintro e A40 ⟨rfl, f⟩
  replace KS := KS.keep f (fun h => h)
  replace KK := KK.keep f (fun h => h)
  replace HF := HF.trans f
  replace HR := row_keep HR f (fun _ _ h => h)
  clear f
  clear KK
  clear KK_z
  clear KK_f
  clear KK_0
  clear KK_1
  clear KK_2
  clear KK_3
  replace KS := KS.alloc (.cells #[(.int .u64 0), (.int .u64 0)] 38)
  replace HF := HF.alloc (.cells #[(.int .u64 0), (.int .u64 0)] 38)
  replace HR := HR.alloc (.cells #[(.int .u64 0), (.int .u64 0)] 38)
  replace KS_0 := KS.cell 0 (v := (.int .i64 1099511627776)) rfl
  replace KS_1 := KS.cell 1 (v := (.int .i64 0)) rfl
  replace KS_2 := KS.cell 2 (v := (.int .i64 0)) rfl
  replace KS_3 := KS.cell 3 (v := (.int .i64 0)) rfl
  replace KS_4 := KS.cell 4 (v := (.int .i64 0)) rfl
  replace KS_5 := KS.cell 5 (v := (.int .i64 1099511627776)) rfl
  replace KS_6 := KS.cell 6 (v := (.int .i64 1)) rfl
  replace KS_7 := KS.cell 7 (v := (.int .i64 0)) rfl
  replace KS_8 := KS.cell 8 (v := (.int .i64 0)) rfl
  replace KS_9 := KS.cell 9 (v := (.int .i64 0)) rfl
  replace KS_10 := KS.cell 10 (v := (.int .i64 0)) rfl
  replace KS_11 := KS.cell 11 (v := (.int .i64 68719476736)) rfl
  replace KS_12 := KS.cell 12 (v := (.int .i64 1099511627775)) rfl
  replace KS_13 := KS.cell 13 (v := (.int .i64 1099511627775)) rfl
  replace KS_14 := KS.cell 14 (v := (.int .i64 8)) rfl
  replace KS_15 := KS.cell 15 (v := (.int .i64 68719476735)) rfl
  replace KS_16 := KS.cell 16 (v := (.int .i64 1099511627776)) rfl
  replace KS_17 := KS.cell 17 (v := (.int .i64 0)) rfl
  replace KS_18 := KS.cell 18 (v := (.int .i64 1)) rfl
  replace KS_19 := KS.cell 19 (v := (.int .i64 0)) rfl
  replace KS_20 := KS.cell 20 (v := (.int .i64 0)) rfl
  replace KS_21 := KS.cell 21 (v := (.int .i64 0)) rfl
  replace KS_22 := KS.cell 22 (v := (.int .i64 0)) rfl
  replace KS_23 := KS.cell 23 (v := (.int .i64 0)) rfl
  replace KS_z := KS.lt
  replace KS_f := KS.free
  go_wp2_with (at_builtin; go_loud (refine wpList_append_row rfl _ _ 47 rfl 26 ie (.int .i64 0) 1 8 Try.underlying47 hie hz0 hz1 hz2 rfl (by decide) _ 0 [] rfl (HR.alloc (.cells #[.int .i64 9] 26)) ⟨_, 0, none⟩ 1 1 [.int .i64 9] rfl rfl (one_new' _ _ _ _ (by simp)) (one_int _ _) (by decide) (by decide) ?_))
  intro v0 A41 hown hfr hgr _
  replace KS := (KS.alloc (.cells #[.int .i64 9] 26)).keep_row (HR.alloc (.cells #[.int .i64 9] 26)) (by decide) hfr
  have HFx := HF.alloc (.cells #[.int .i64 9] 26)
  have HGn := HG.grows hgr HFx.size
  replace HF := HFx.own hfr HG
  replace HG := HGn
  replace HR := hown
  clear HGn hown hfr hgr HFx
  clear KS_0 KS_1 KS_2 KS_3 KS_4 KS_5 KS_6 KS_7 KS_8 KS_9 KS_10 KS_11 KS_12 KS_13 KS_14 KS_15 KS_16 KS_17 KS_18 KS_19 KS_20 KS_21 KS_22 KS_23 KS_z KS_f
  have KS_0 := KS.cell 0 (v := (.int .i64 1099511627776)) rfl
  have KS_1 := KS.cell 1 (v := (.int .i64 0)) rfl
  have KS_2 := KS.cell 2 (v := (.int .i64 0)) rfl
  have KS_3 := KS.cell 3 (v := (.int .i64 0)) rfl
  have KS_4 := KS.cell 4 (v := (.int .i64 0)) rfl
  have KS_5 := KS.cell 5 (v := (.int .i64 1099511627776)) rfl
  have KS_6 := KS.cell 6 (v := (.int .i64 1)) rfl
  have KS_7 := KS.cell 7 (v := (.int .i64 0)) rfl
  have KS_8 := KS.cell 8 (v := (.int .i64 0)) rfl
  have KS_9 := KS.cell 9 (v := (.int .i64 0)) rfl
  have KS_10 := KS.cell 10 (v := (.int .i64 0)) rfl
  have KS_11 := KS.cell 11 (v := (.int .i64 68719476736)) rfl
  have KS_12 := KS.cell 12 (v := (.int .i64 1099511627775)) rfl
  have KS_13 := KS.cell 13 (v := (.int .i64 1099511627775)) rfl
  have KS_14 := KS.cell 14 (v := (.int .i64 8)) rfl
  have KS_15 := KS.cell 15 (v := (.int .i64 68719476735)) rfl
  have KS_16 := KS.cell 16 (v := (.int .i64 1099511627776)) rfl
  have KS_17 := KS.cell 17 (v := (.int .i64 0)) rfl
  have KS_18 := KS.cell 18 (v := (.int .i64 1)) rfl
  have KS_19 := KS.cell 19 (v := (.int .i64 0)) rfl
  have KS_20 := KS.cell 20 (v := (.int .i64 0)) rfl
  have KS_21 := KS.cell 21 (v := (.int .i64 0)) rfl
  have KS_22 := KS.cell 22 (v := (.int .i64 0)) rfl
  have KS_23 := KS.cell 23 (v := (.int .i64 0)) rfl
  have KS_z := KS.lt
  have KS_f := KS.free
  go_wp2_with fail
  rw [rounds_succ]
  replace KS_0 := KS.cell 0 (v := (.int .i64 1099511627776)) rfl
  replace KS_1 := KS.cell 1 (v := (.int .i64 0)) rfl
  replace KS_2 := KS.cell 2 (v := (.int .i64 0)) rfl
  replace KS_3 := KS.cell 3 (v := (.int .i64 0)) rfl
  replace KS_4 := KS.cell 4 (v := (.int .i64 0)) rfl
  replace KS_5 := KS.cell 5 (v := (.int .i64 1099511627776)) rfl
  replace KS_6 := KS.cell 6 (v := (.int .i64 1)) rfl
  replace KS_7 := KS.cell 7 (v := (.int .i64 0)) rfl
  replace KS_8 := KS.cell 8 (v := (.int .i64 0)) rfl
  replace KS_9 := KS.cell 9 (v := (.int .i64 0)) rfl
  replace KS_10 := KS.cell 10 (v := (.int .i64 0)) rfl
  replace KS_11 := KS.cell 11 (v := (.int .i64 68719476736)) rfl
  replace KS_12 := KS.cell 12 (v := (.int .i64 1099511627775)) rfl
  replace KS_13 := KS.cell 13 (v := (.int .i64 1099511627775)) rfl
  replace KS_14 := KS.cell 14 (v := (.int .i64 8)) rfl
  replace KS_15 := KS.cell 15 (v := (.int .i64 68719476735)) rfl
  replace KS_16 := KS.cell 16 (v := (.int .i64 1099511627776)) rfl
  replace KS_17 := KS.cell 17 (v := (.int .i64 0)) rfl
  replace KS_18 := KS.cell 18 (v := (.int .i64 1)) rfl
  replace KS_19 := KS.cell 19 (v := (.int .i64 0)) rfl
  replace KS_20 := KS.cell 20 (v := (.int .i64 0)) rfl
  replace KS_21 := KS.cell 21 (v := (.int .i64 0)) rfl
  replace KS_22 := KS.cell 22 (v := (.int .i64 0)) rfl
  replace KS_23 := KS.cell 23 (v := (.int .i64 0)) rfl
  replace KS_z := KS.lt
  replace KS_f := KS.free
  go_wp2_with fail
  replace KS := KS.alloc (.cells #[(.int .i64 0), (.int .i64 1099511627776), (.int .i64 1), (.int .i64 0)] 25)
  have KK := Blk.new A41 #[(.int .i64 0), (.int .i64 1099511627776), (.int .i64 1), (.int .i64 0)] 25
  replace HF := HF.alloc (.cells #[(.int .i64 0), (.int .i64 1099511627776), (.int .i64 1), (.int .i64 0)] 25)
  replace HR := HR.alloc (.cells #[(.int .i64 0), (.int .i64 1099511627776), (.int .i64 1), (.int .i64 0)] 25)
  have KK_0 := KK.cell 0 (v := (.int .i64 0)) rfl
  have KK_1 := KK.cell 1 (v := (.int .i64 1099511627776)) rfl
  have KK_2 := KK.cell 2 (v := (.int .i64 1)) rfl
  have KK_3 := KK.cell 3 (v := (.int .i64 0)) rfl
  have KK_z := KK.lt
  have KK_f := KK.free
  refine (pack_lit 0 0 9 (by decide)).mono ?_
  rintro e A42 ⟨rfl, f⟩
  replace KS := KS.keep f (fun h => h)
  replace KK := KK.keep f (fun h => h)
  replace HF := HF.trans f
  replace HR := row_keep HR f (fun _ _ h => h)
  clear f
  clear KK
  clear KK_z
  clear KK_f
  clear KK_0
  clear KK_1
  clear KK_2
  clear KK_3
  replace KS := KS.alloc (.cells #[(.int .u64 0), (.int .u64 0)] 38)
  replace HF := HF.alloc (.cells #[(.int .u64 0), (.int .u64 0)] 38)
  replace HR := HR.alloc (.cells #[(.int .u64 0), (.int .u64 0)] 38)
  replace KS_0 := KS.cell 0 (v := (.int .i64 1099511627776)) rfl
  replace KS_1 := KS.cell 1 (v := (.int .i64 0)) rfl
  replace KS_2 := KS.cell 2 (v := (.int .i64 0)) rfl
  replace KS_3 := KS.cell 3 (v := (.int .i64 0)) rfl
  replace KS_4 := KS.cell 4 (v := (.int .i64 0)) rfl
  replace KS_5 := KS.cell 5 (v := (.int .i64 1099511627776)) rfl
  replace KS_6 := KS.cell 6 (v := (.int .i64 1)) rfl
  replace KS_7 := KS.cell 7 (v := (.int .i64 0)) rfl
  replace KS_8 := KS.cell 8 (v := (.int .i64 0)) rfl
  replace KS_9 := KS.cell 9 (v := (.int .i64 0)) rfl
  replace KS_10 := KS.cell 10 (v := (.int .i64 0)) rfl
  replace KS_11 := KS.cell 11 (v := (.int .i64 68719476736)) rfl
  replace KS_12 := KS.cell 12 (v := (.int .i64 1099511627775)) rfl
  replace KS_13 := KS.cell 13 (v := (.int .i64 1099511627775)) rfl
  replace KS_14 := KS.cell 14 (v := (.int .i64 8)) rfl
  replace KS_15 := KS.cell 15 (v := (.int .i64 68719476735)) rfl
  replace KS_16 := KS.cell 16 (v := (.int .i64 1099511627776)) rfl
  replace KS_17 := KS.cell 17 (v := (.int .i64 0)) rfl
  replace KS_18 := KS.cell 18 (v := (.int .i64 1)) rfl
  replace KS_19 := KS.cell 19 (v := (.int .i64 0)) rfl
  replace KS_20 := KS.cell 20 (v := (.int .i64 0)) rfl
  replace KS_21 := KS.cell 21 (v := (.int .i64 0)) rfl
  replace KS_22 := KS.cell 22 (v := (.int .i64 0)) rfl
  replace KS_23 := KS.cell 23 (v := (.int .i64 0)) rfl
  replace KS_z := KS.lt
  replace KS_f := KS.free
  go_wp2_with (at_builtin; go_loud (refine wpList_append_row rfl _ _ 47 rfl 26 ie (.int .i64 0) 1 8 Try.underlying47 hie hz0 hz1 hz2 rfl (by decide) _ 1 [.int .i64 9] rfl (HR.alloc (.cells #[.int .i64 9] 26)) ⟨_, 0, none⟩ 1 1 [.int .i64 9] rfl rfl (one_new' _ _ _ _ (by simp)) (one_int _ _) (by decide) (by decide) ?_))
  intro v1 A43 hown hfr hgr _
  replace KS := (KS.alloc (.cells #[.int .i64 9] 26)).keep_row (HR.alloc (.cells #[.int .i64 9] 26)) (by decide) hfr
  have HFx := HF.alloc (.cells #[.int .i64 9] 26)
  have HGn := HG.grows hgr HFx.size
  replace HF := HFx.own hfr HG
  replace HG := HGn
  replace HR := hown
  clear HGn hown hfr hgr HFx
  clear KS_0 KS_1 KS_2 KS_3 KS_4 KS_5 KS_6 KS_7 KS_8 KS_9 KS_10 KS_11 KS_12 KS_13 KS_14 KS_15 KS_16 KS_17 KS_18 KS_19 KS_20 KS_21 KS_22 KS_23 KS_z KS_f
  have KS_0 := KS.cell 0 (v := (.int .i64 1099511627776)) rfl
  have KS_1 := KS.cell 1 (v := (.int .i64 0)) rfl
  have KS_2 := KS.cell 2 (v := (.int .i64 0)) rfl
  have KS_3 := KS.cell 3 (v := (.int .i64 0)) rfl
  have KS_4 := KS.cell 4 (v := (.int .i64 0)) rfl
  have KS_5 := KS.cell 5 (v := (.int .i64 1099511627776)) rfl
  have KS_6 := KS.cell 6 (v := (.int .i64 1)) rfl
  have KS_7 := KS.cell 7 (v := (.int .i64 0)) rfl
  have KS_8 := KS.cell 8 (v := (.int .i64 0)) rfl
  have KS_9 := KS.cell 9 (v := (.int .i64 0)) rfl
  have KS_10 := KS.cell 10 (v := (.int .i64 0)) rfl
  have KS_11 := KS.cell 11 (v := (.int .i64 68719476736)) rfl
  have KS_12 := KS.cell 12 (v := (.int .i64 1099511627775)) rfl
  have KS_13 := KS.cell 13 (v := (.int .i64 1099511627775)) rfl
  have KS_14 := KS.cell 14 (v := (.int .i64 8)) rfl
  have KS_15 := KS.cell 15 (v := (.int .i64 68719476735)) rfl
  have KS_16 := KS.cell 16 (v := (.int .i64 1099511627776)) rfl
  have KS_17 := KS.cell 17 (v := (.int .i64 0)) rfl
  have KS_18 := KS.cell 18 (v := (.int .i64 1)) rfl
  have KS_19 := KS.cell 19 (v := (.int .i64 0)) rfl
  have KS_20 := KS.cell 20 (v := (.int .i64 0)) rfl
  have KS_21 := KS.cell 21 (v := (.int .i64 0)) rfl
  have KS_22 := KS.cell 22 (v := (.int .i64 0)) rfl
  have KS_23 := KS.cell 23 (v := (.int .i64 0)) rfl
  have KS_z := KS.lt
  have KS_f := KS.free
  go_wp2_with fail
  rw [rounds_succ]
  replace KS_0 := KS.cell 0 (v := (.int .i64 1099511627776)) rfl
  replace KS_1 := KS.cell 1 (v := (.int .i64 0)) rfl
  replace KS_2 := KS.cell 2 (v := (.int .i64 0)) rfl
  replace KS_3 := KS.cell 3 (v := (.int .i64 0)) rfl
  replace KS_4 := KS.cell 4 (v := (.int .i64 0)) rfl
  replace KS_5 := KS.cell 5 (v := (.int .i64 1099511627776)) rfl
  replace KS_6 := KS.cell 6 (v := (.int .i64 1)) rfl
  replace KS_7 := KS.cell 7 (v := (.int .i64 0)) rfl
  replace KS_8 := KS.cell 8 (v := (.int .i64 0)) rfl
  replace KS_9 := KS.cell 9 (v := (.int .i64 0)) rfl
  replace KS_10 := KS.cell 10 (v := (.int .i64 0)) rfl
  replace KS_11 := KS.cell 11 (v := (.int .i64 68719476736)) rfl
  replace KS_12 := KS.cell 12 (v := (.int .i64 1099511627775)) rfl
  replace KS_13 := KS.cell 13 (v := (.int .i64 1099511627775)) rfl
  replace KS_14 := KS.cell 14 (v := (.int .i64 8)) rfl
  replace KS_15 := KS.cell 15 (v := (.int .i64 68719476735)) rfl
  replace KS_16 := KS.cell 16 (v := (.int .i64 1099511627776)) rfl
  replace KS_17 := KS.cell 17 (v := (.int .i64 0)) rfl
  replace KS_18 := KS.cell 18 (v := (.int .i64 1)) rfl
  replace KS_19 := KS.cell 19 (v := (.int .i64 0)) rfl
  replace KS_20 := KS.cell 20 (v := (.int .i64 0)) rfl
  replace KS_21 := KS.cell 21 (v := (.int .i64 0)) rfl
  replace KS_22 := KS.cell 22 (v := (.int .i64 0)) rfl
  replace KS_23 := KS.cell 23 (v := (.int .i64 0)) rfl
  replace KS_z := KS.lt
  replace KS_f := KS.free
  go_wp2_with fail
  replace KS := KS.alloc (.cells #[(.int .i64 0), (.int .i64 0), (.int .i64 0), (.int .i64 68719476736)] 25)
  have KK := Blk.new A43 #[(.int .i64 0), (.int .i64 0), (.int .i64 0), (.int .i64 68719476736)] 25
  replace HF := HF.alloc (.cells #[(.int .i64 0), (.int .i64 0), (.int .i64 0), (.int .i64 68719476736)] 25)
  replace HR := HR.alloc (.cells #[(.int .i64 0), (.int .i64 0), (.int .i64 0), (.int .i64 68719476736)] 25)
  have KK_0 := KK.cell 0 (v := (.int .i64 0)) rfl
  have KK_1 := KK.cell 1 (v := (.int .i64 0)) rfl
  have KK_2 := KK.cell 2 (v := (.int .i64 0)) rfl
  have KK_3 := KK.cell 3 (v := (.int .i64 68719476736)) rfl
  have KK_z := KK.lt
  have KK_f := KK.free
  refine (pack_lit 0 0 9 (by decide)).mono ?_
  rintro e A44 ⟨rfl, f⟩
  replace KS := KS.keep f (fun h => h)
  replace KK := KK.keep f (fun h => h)
  replace HF := HF.trans f
  replace HR := row_keep HR f (fun _ _ h => h)
  clear f
  clear KK
  clear KK_z
  clear KK_f
  clear KK_0
  clear KK_1
  clear KK_2
  clear KK_3
  replace KS := KS.alloc (.cells #[(.int .u64 0), (.int .u64 0)] 38)
  replace HF := HF.alloc (.cells #[(.int .u64 0), (.int .u64 0)] 38)
  replace HR := HR.alloc (.cells #[(.int .u64 0), (.int .u64 0)] 38)
  replace KS_0 := KS.cell 0 (v := (.int .i64 1099511627776)) rfl
  replace KS_1 := KS.cell 1 (v := (.int .i64 0)) rfl
  replace KS_2 := KS.cell 2 (v := (.int .i64 0)) rfl
  replace KS_3 := KS.cell 3 (v := (.int .i64 0)) rfl
  replace KS_4 := KS.cell 4 (v := (.int .i64 0)) rfl
  replace KS_5 := KS.cell 5 (v := (.int .i64 1099511627776)) rfl
  replace KS_6 := KS.cell 6 (v := (.int .i64 1)) rfl
  replace KS_7 := KS.cell 7 (v := (.int .i64 0)) rfl
  replace KS_8 := KS.cell 8 (v := (.int .i64 0)) rfl
  replace KS_9 := KS.cell 9 (v := (.int .i64 0)) rfl
  replace KS_10 := KS.cell 10 (v := (.int .i64 0)) rfl
  replace KS_11 := KS.cell 11 (v := (.int .i64 68719476736)) rfl
  replace KS_12 := KS.cell 12 (v := (.int .i64 1099511627775)) rfl
  replace KS_13 := KS.cell 13 (v := (.int .i64 1099511627775)) rfl
  replace KS_14 := KS.cell 14 (v := (.int .i64 8)) rfl
  replace KS_15 := KS.cell 15 (v := (.int .i64 68719476735)) rfl
  replace KS_16 := KS.cell 16 (v := (.int .i64 1099511627776)) rfl
  replace KS_17 := KS.cell 17 (v := (.int .i64 0)) rfl
  replace KS_18 := KS.cell 18 (v := (.int .i64 1)) rfl
  replace KS_19 := KS.cell 19 (v := (.int .i64 0)) rfl
  replace KS_20 := KS.cell 20 (v := (.int .i64 0)) rfl
  replace KS_21 := KS.cell 21 (v := (.int .i64 0)) rfl
  replace KS_22 := KS.cell 22 (v := (.int .i64 0)) rfl
  replace KS_23 := KS.cell 23 (v := (.int .i64 0)) rfl
  replace KS_z := KS.lt
  replace KS_f := KS.free
  go_wp2_with (at_builtin; go_loud (refine wpList_append_row rfl _ _ 47 rfl 26 ie (.int .i64 0) 1 8 Try.underlying47 hie hz0 hz1 hz2 rfl (by decide) _ 2 [.int .i64 9, .int .i64 9] rfl (HR.alloc (.cells #[.int .i64 9] 26)) ⟨_, 0, none⟩ 1 1 [.int .i64 9] rfl rfl (one_new' _ _ _ _ (by simp)) (one_int _ _) (by decide) (by decide) ?_))
  intro v2 A45 hown hfr hgr _
  replace KS := (KS.alloc (.cells #[.int .i64 9] 26)).keep_row (HR.alloc (.cells #[.int .i64 9] 26)) (by decide) hfr
  have HFx := HF.alloc (.cells #[.int .i64 9] 26)
  have HGn := HG.grows hgr HFx.size
  replace HF := HFx.own hfr HG
  replace HG := HGn
  replace HR := hown
  clear HGn hown hfr hgr HFx
  clear KS_0 KS_1 KS_2 KS_3 KS_4 KS_5 KS_6 KS_7 KS_8 KS_9 KS_10 KS_11 KS_12 KS_13 KS_14 KS_15 KS_16 KS_17 KS_18 KS_19 KS_20 KS_21 KS_22 KS_23 KS_z KS_f
  have KS_0 := KS.cell 0 (v := (.int .i64 1099511627776)) rfl
  have KS_1 := KS.cell 1 (v := (.int .i64 0)) rfl
  have KS_2 := KS.cell 2 (v := (.int .i64 0)) rfl
  have KS_3 := KS.cell 3 (v := (.int .i64 0)) rfl
  have KS_4 := KS.cell 4 (v := (.int .i64 0)) rfl
  have KS_5 := KS.cell 5 (v := (.int .i64 1099511627776)) rfl
  have KS_6 := KS.cell 6 (v := (.int .i64 1)) rfl
  have KS_7 := KS.cell 7 (v := (.int .i64 0)) rfl
  have KS_8 := KS.cell 8 (v := (.int .i64 0)) rfl
  have KS_9 := KS.cell 9 (v := (.int .i64 0)) rfl
  have KS_10 := KS.cell 10 (v := (.int .i64 0)) rfl
  have KS_11 := KS.cell 11 (v := (.int .i64 68719476736)) rfl
  have KS_12 := KS.cell 12 (v := (.int .i64 1099511627775)) rfl
  have KS_13 := KS.cell 13 (v := (.int .i64 1099511627775)) rfl
  have KS_14 := KS.cell 14 (v := (.int .i64 8)) rfl
  have KS_15 := KS.cell 15 (v := (.int .i64 68719476735)) rfl
  have KS_16 := KS.cell 16 (v := (.int .i64 1099511627776)) rfl
  have KS_17 := KS.cell 17 (v := (.int .i64 0)) rfl
  have KS_18 := KS.cell 18 (v := (.int .i64 1)) rfl
  have KS_19 := KS.cell 19 (v := (.int .i64 0)) rfl
  have KS_20 := KS.cell 20 (v := (.int .i64 0)) rfl
  have KS_21 := KS.cell 21 (v := (.int .i64 0)) rfl
  have KS_22 := KS.cell 22 (v := (.int .i64 0)) rfl
  have KS_23 := KS.cell 23 (v := (.int .i64 0)) rfl
  have KS_z := KS.lt
  have KS_f := KS.free
  go_wp2_with fail
  rw [rounds_succ]
  replace KS_0 := KS.cell 0 (v := (.int .i64 1099511627776)) rfl
  replace KS_1 := KS.cell 1 (v := (.int .i64 0)) rfl
  replace KS_2 := KS.cell 2 (v := (.int .i64 0)) rfl
  replace KS_3 := KS.cell 3 (v := (.int .i64 0)) rfl
  replace KS_4 := KS.cell 4 (v := (.int .i64 0)) rfl
  replace KS_5 := KS.cell 5 (v := (.int .i64 1099511627776)) rfl
  replace KS_6 := KS.cell 6 (v := (.int .i64 1)) rfl
  replace KS_7 := KS.cell 7 (v := (.int .i64 0)) rfl
  replace KS_8 := KS.cell 8 (v := (.int .i64 0)) rfl
  replace KS_9 := KS.cell 9 (v := (.int .i64 0)) rfl
  replace KS_10 := KS.cell 10 (v := (.int .i64 0)) rfl
  replace KS_11 := KS.cell 11 (v := (.int .i64 68719476736)) rfl
  replace KS_12 := KS.cell 12 (v := (.int .i64 1099511627775)) rfl
  replace KS_13 := KS.cell 13 (v := (.int .i64 1099511627775)) rfl
  replace KS_14 := KS.cell 14 (v := (.int .i64 8)) rfl
  replace KS_15 := KS.cell 15 (v := (.int .i64 68719476735)) rfl
  replace KS_16 := KS.cell 16 (v := (.int .i64 1099511627776)) rfl
  replace KS_17 := KS.cell 17 (v := (.int .i64 0)) rfl
  replace KS_18 := KS.cell 18 (v := (.int .i64 1)) rfl
  replace KS_19 := KS.cell 19 (v := (.int .i64 0)) rfl
  replace KS_20 := KS.cell 20 (v := (.int .i64 0)) rfl
  replace KS_21 := KS.cell 21 (v := (.int .i64 0)) rfl
  replace KS_22 := KS.cell 22 (v := (.int .i64 0)) rfl
  replace KS_23 := KS.cell 23 (v := (.int .i64 0)) rfl
  replace KS_z := KS.lt
  replace KS_f := KS.free
  go_wp2_with fail
  replace KS := KS.alloc (.cells #[(.int .i64 1099511627775), (.int .i64 1099511627775), (.int .i64 8), (.int .i64 68719476735)] 25)
  have KK := Blk.new A45 #[(.int .i64 1099511627775), (.int .i64 1099511627775), (.int .i64 8), (.int .i64 68719476735)] 25
  replace HF := HF.alloc (.cells #[(.int .i64 1099511627775), (.int .i64 1099511627775), (.int .i64 8), (.int .i64 68719476735)] 25)
  replace HR := HR.alloc (.cells #[(.int .i64 1099511627775), (.int .i64 1099511627775), (.int .i64 8), (.int .i64 68719476735)] 25)
  have KK_0 := KK.cell 0 (v := (.int .i64 1099511627775)) rfl
  have KK_1 := KK.cell 1 (v := (.int .i64 1099511627775)) rfl
  have KK_2 := KK.cell 2 (v := (.int .i64 8)) rfl
  have KK_3 := KK.cell 3 (v := (.int .i64 68719476735)) rfl
  have KK_z := KK.lt
  have KK_f := KK.free
  refine (pack_lit 72057594037927935 18446743592673214463 0 (by decide)).mono ?_
  rintro e A46 ⟨rfl, f⟩
  replace KS := KS.keep f (fun h => h)
  replace KK := KK.keep f (fun h => h)
  replace HF := HF.trans f
  replace HR := row_keep HR f (fun _ _ h => h)
  clear f
  clear KK
  clear KK_z
  clear KK_f
  clear KK_0
  clear KK_1
  clear KK_2
  clear KK_3
  replace KS := KS.alloc (.cells #[(.int .u64 72057594037927935), (.int .u64 18446743592673214463)] 38)
  replace HF := HF.alloc (.cells #[(.int .u64 72057594037927935), (.int .u64 18446743592673214463)] 38)
  replace HR := HR.alloc (.cells #[(.int .u64 72057594037927935), (.int .u64 18446743592673214463)] 38)
  replace KS_0 := KS.cell 0 (v := (.int .i64 1099511627776)) rfl
  replace KS_1 := KS.cell 1 (v := (.int .i64 0)) rfl
  replace KS_2 := KS.cell 2 (v := (.int .i64 0)) rfl
  replace KS_3 := KS.cell 3 (v := (.int .i64 0)) rfl
  replace KS_4 := KS.cell 4 (v := (.int .i64 0)) rfl
  replace KS_5 := KS.cell 5 (v := (.int .i64 1099511627776)) rfl
  replace KS_6 := KS.cell 6 (v := (.int .i64 1)) rfl
  replace KS_7 := KS.cell 7 (v := (.int .i64 0)) rfl
  replace KS_8 := KS.cell 8 (v := (.int .i64 0)) rfl
  replace KS_9 := KS.cell 9 (v := (.int .i64 0)) rfl
  replace KS_10 := KS.cell 10 (v := (.int .i64 0)) rfl
  replace KS_11 := KS.cell 11 (v := (.int .i64 68719476736)) rfl
  replace KS_12 := KS.cell 12 (v := (.int .i64 1099511627775)) rfl
  replace KS_13 := KS.cell 13 (v := (.int .i64 1099511627775)) rfl
  replace KS_14 := KS.cell 14 (v := (.int .i64 8)) rfl
  replace KS_15 := KS.cell 15 (v := (.int .i64 68719476735)) rfl
  replace KS_16 := KS.cell 16 (v := (.int .i64 1099511627776)) rfl
  replace KS_17 := KS.cell 17 (v := (.int .i64 0)) rfl
  replace KS_18 := KS.cell 18 (v := (.int .i64 1)) rfl
  replace KS_19 := KS.cell 19 (v := (.int .i64 0)) rfl
  replace KS_20 := KS.cell 20 (v := (.int .i64 0)) rfl
  replace KS_21 := KS.cell 21 (v := (.int .i64 0)) rfl
  replace KS_22 := KS.cell 22 (v := (.int .i64 0)) rfl
  replace KS_23 := KS.cell 23 (v := (.int .i64 0)) rfl
  replace KS_z := KS.lt
  replace KS_f := KS.free
  go_wp2_with (at_builtin; go_loud (refine wpList_append_row rfl _ _ 47 rfl 26 ie (.int .i64 0) 1 8 Try.underlying47 hie hz0 hz1 hz2 rfl (by decide) _ 3 [.int .i64 9, .int .i64 9, .int .i64 9] rfl (HR.alloc (.cells #[.int .i64 0] 26)) ⟨_, 0, none⟩ 1 1 [.int .i64 0] rfl rfl (one_new' _ _ _ _ (by simp)) (one_int _ _) (by decide) (by decide) ?_))
  intro v3 A47 hown hfr hgr _
  replace KS := (KS.alloc (.cells #[.int .i64 0] 26)).keep_row (HR.alloc (.cells #[.int .i64 0] 26)) (by decide) hfr
  have HFx := HF.alloc (.cells #[.int .i64 0] 26)
  have HGn := HG.grows hgr HFx.size
  replace HF := HFx.own hfr HG
  replace HG := HGn
  replace HR := hown
  clear HGn hown hfr hgr HFx
  clear KS_0 KS_1 KS_2 KS_3 KS_4 KS_5 KS_6 KS_7 KS_8 KS_9 KS_10 KS_11 KS_12 KS_13 KS_14 KS_15 KS_16 KS_17 KS_18 KS_19 KS_20 KS_21 KS_22 KS_23 KS_z KS_f
  have KS_0 := KS.cell 0 (v := (.int .i64 1099511627776)) rfl
  have KS_1 := KS.cell 1 (v := (.int .i64 0)) rfl
  have KS_2 := KS.cell 2 (v := (.int .i64 0)) rfl
  have KS_3 := KS.cell 3 (v := (.int .i64 0)) rfl
  have KS_4 := KS.cell 4 (v := (.int .i64 0)) rfl
  have KS_5 := KS.cell 5 (v := (.int .i64 1099511627776)) rfl
  have KS_6 := KS.cell 6 (v := (.int .i64 1)) rfl
  have KS_7 := KS.cell 7 (v := (.int .i64 0)) rfl
  have KS_8 := KS.cell 8 (v := (.int .i64 0)) rfl
  have KS_9 := KS.cell 9 (v := (.int .i64 0)) rfl
  have KS_10 := KS.cell 10 (v := (.int .i64 0)) rfl
  have KS_11 := KS.cell 11 (v := (.int .i64 68719476736)) rfl
  have KS_12 := KS.cell 12 (v := (.int .i64 1099511627775)) rfl
  have KS_13 := KS.cell 13 (v := (.int .i64 1099511627775)) rfl
  have KS_14 := KS.cell 14 (v := (.int .i64 8)) rfl
  have KS_15 := KS.cell 15 (v := (.int .i64 68719476735)) rfl
  have KS_16 := KS.cell 16 (v := (.int .i64 1099511627776)) rfl
  have KS_17 := KS.cell 17 (v := (.int .i64 0)) rfl
  have KS_18 := KS.cell 18 (v := (.int .i64 1)) rfl
  have KS_19 := KS.cell 19 (v := (.int .i64 0)) rfl
  have KS_20 := KS.cell 20 (v := (.int .i64 0)) rfl
  have KS_21 := KS.cell 21 (v := (.int .i64 0)) rfl
  have KS_22 := KS.cell 22 (v := (.int .i64 0)) rfl
  have KS_23 := KS.cell 23 (v := (.int .i64 0)) rfl
  have KS_z := KS.lt
  have KS_f := KS.free
  go_wp2_with fail
  rw [rounds_succ]
  replace KS_0 := KS.cell 0 (v := (.int .i64 1099511627776)) rfl
  replace KS_1 := KS.cell 1 (v := (.int .i64 0)) rfl
  replace KS_2 := KS.cell 2 (v := (.int .i64 0)) rfl
  replace KS_3 := KS.cell 3 (v := (.int .i64 0)) rfl
  replace KS_4 := KS.cell 4 (v := (.int .i64 0)) rfl
  replace KS_5 := KS.cell 5 (v := (.int .i64 1099511627776)) rfl
  replace KS_6 := KS.cell 6 (v := (.int .i64 1)) rfl
  replace KS_7 := KS.cell 7 (v := (.int .i64 0)) rfl
  replace KS_8 := KS.cell 8 (v := (.int .i64 0)) rfl
  replace KS_9 := KS.cell 9 (v := (.int .i64 0)) rfl
  replace KS_10 := KS.cell 10 (v := (.int .i64 0)) rfl
  replace KS_11 := KS.cell 11 (v := (.int .i64 68719476736)) rfl
  replace KS_12 := KS.cell 12 (v := (.int .i64 1099511627775)) rfl
  replace KS_13 := KS.cell 13 (v := (.int .i64 1099511627775)) rfl
  replace KS_14 := KS.cell 14 (v := (.int .i64 8)) rfl
  replace KS_15 := KS.cell 15 (v := (.int .i64 68719476735)) rfl
  replace KS_16 := KS.cell 16 (v := (.int .i64 1099511627776)) rfl
  replace KS_17 := KS.cell 17 (v := (.int .i64 0)) rfl
  replace KS_18 := KS.cell 18 (v := (.int .i64 1)) rfl
  replace KS_19 := KS.cell 19 (v := (.int .i64 0)) rfl
  replace KS_20 := KS.cell 20 (v := (.int .i64 0)) rfl
  replace KS_21 := KS.cell 21 (v := (.int .i64 0)) rfl
  replace KS_22 := KS.cell 22 (v := (.int .i64 0)) rfl
  replace KS_23 := KS.cell 23 (v := (.int .i64 0)) rfl
  replace KS_z := KS.lt
  replace KS_f := KS.free
  go_wp2_with fail
  replace KS := KS.alloc (.cells #[(.int .i64 1099511627776), (.int .i64 0), (.int .i64 1), (.int .i64 0)] 25)
  have KK := Blk.new A47 #[(.int .i64 1099511627776), (.int .i64 0), (.int .i64 1), (.int .i64 0)] 25
  replace HF := HF.alloc (.cells #[(.int .i64 1099511627776), (.int .i64 0), (.int .i64 1), (.int .i64 0)] 25)
  replace HR := HR.alloc (.cells #[(.int .i64 1099511627776), (.int .i64 0), (.int .i64 1), (.int .i64 0)] 25)
  have KK_0 := KK.cell 0 (v := (.int .i64 1099511627776)) rfl
  have KK_1 := KK.cell 1 (v := (.int .i64 0)) rfl
  have KK_2 := KK.cell 2 (v := (.int .i64 1)) rfl
  have KK_3 := KK.cell 3 (v := (.int .i64 0)) rfl
  have KK_z := KK.lt
  have KK_f := KK.free
  refine (pack_lit 0 0 2 (by decide)).mono ?_
  rintro e A48 ⟨rfl, f⟩
  replace KS := KS.keep f (fun h => h)
  replace KK := KK.keep f (fun h => h)
  replace HF := HF.trans f
  replace HR := row_keep HR f (fun _ _ h => h)
  clear f
  clear KK
  clear KK_z
  clear KK_f
  clear KK_0
  clear KK_1
  clear KK_2
  clear KK_3
  replace KS := KS.alloc (.cells #[(.int .u64 0), (.int .u64 0)] 38)
  replace HF := HF.alloc (.cells #[(.int .u64 0), (.int .u64 0)] 38)
  replace HR := HR.alloc (.cells #[(.int .u64 0), (.int .u64 0)] 38)
  replace KS_0 := KS.cell 0 (v := (.int .i64 1099511627776)) rfl
  replace KS_1 := KS.cell 1 (v := (.int .i64 0)) rfl
  replace KS_2 := KS.cell 2 (v := (.int .i64 0)) rfl
  replace KS_3 := KS.cell 3 (v := (.int .i64 0)) rfl
  replace KS_4 := KS.cell 4 (v := (.int .i64 0)) rfl
  replace KS_5 := KS.cell 5 (v := (.int .i64 1099511627776)) rfl
  replace KS_6 := KS.cell 6 (v := (.int .i64 1)) rfl
  replace KS_7 := KS.cell 7 (v := (.int .i64 0)) rfl
  replace KS_8 := KS.cell 8 (v := (.int .i64 0)) rfl
  replace KS_9 := KS.cell 9 (v := (.int .i64 0)) rfl
  replace KS_10 := KS.cell 10 (v := (.int .i64 0)) rfl
  replace KS_11 := KS.cell 11 (v := (.int .i64 68719476736)) rfl
  replace KS_12 := KS.cell 12 (v := (.int .i64 1099511627775)) rfl
  replace KS_13 := KS.cell 13 (v := (.int .i64 1099511627775)) rfl
  replace KS_14 := KS.cell 14 (v := (.int .i64 8)) rfl
  replace KS_15 := KS.cell 15 (v := (.int .i64 68719476735)) rfl
  replace KS_16 := KS.cell 16 (v := (.int .i64 1099511627776)) rfl
  replace KS_17 := KS.cell 17 (v := (.int .i64 0)) rfl
  replace KS_18 := KS.cell 18 (v := (.int .i64 1)) rfl
  replace KS_19 := KS.cell 19 (v := (.int .i64 0)) rfl
  replace KS_20 := KS.cell 20 (v := (.int .i64 0)) rfl
  replace KS_21 := KS.cell 21 (v := (.int .i64 0)) rfl
  replace KS_22 := KS.cell 22 (v := (.int .i64 0)) rfl
  replace KS_23 := KS.cell 23 (v := (.int .i64 0)) rfl
  replace KS_z := KS.lt
  replace KS_f := KS.free
  go_wp2_with (at_builtin; go_loud (refine wpList_append_row rfl _ _ 47 rfl 26 ie (.int .i64 0) 1 8 Try.underlying47 hie hz0 hz1 hz2 rfl (by decide) _ 4 [.int .i64 9, .int .i64 9, .int .i64 9, .int .i64 0] rfl (HR.alloc (.cells #[.int .i64 2] 26)) ⟨_, 0, none⟩ 1 1 [.int .i64 2] rfl rfl (one_new' _ _ _ _ (by simp)) (one_int _ _) (by decide) (by decide) ?_))
  intro v4 A49 hown hfr hgr _
  replace KS := (KS.alloc (.cells #[.int .i64 2] 26)).keep_row (HR.alloc (.cells #[.int .i64 2] 26)) (by decide) hfr
  have HFx := HF.alloc (.cells #[.int .i64 2] 26)
  have HGn := HG.grows hgr HFx.size
  replace HF := HFx.own hfr HG
  replace HG := HGn
  replace HR := hown
  clear HGn hown hfr hgr HFx
  clear KS_0 KS_1 KS_2 KS_3 KS_4 KS_5 KS_6 KS_7 KS_8 KS_9 KS_10 KS_11 KS_12 KS_13 KS_14 KS_15 KS_16 KS_17 KS_18 KS_19 KS_20 KS_21 KS_22 KS_23 KS_z KS_f
  have KS_0 := KS.cell 0 (v := (.int .i64 1099511627776)) rfl
  have KS_1 := KS.cell 1 (v := (.int .i64 0)) rfl
  have KS_2 := KS.cell 2 (v := (.int .i64 0)) rfl
  have KS_3 := KS.cell 3 (v := (.int .i64 0)) rfl
  have KS_4 := KS.cell 4 (v := (.int .i64 0)) rfl
  have KS_5 := KS.cell 5 (v := (.int .i64 1099511627776)) rfl
  have KS_6 := KS.cell 6 (v := (.int .i64 1)) rfl
  have KS_7 := KS.cell 7 (v := (.int .i64 0)) rfl
  have KS_8 := KS.cell 8 (v := (.int .i64 0)) rfl
  have KS_9 := KS.cell 9 (v := (.int .i64 0)) rfl
  have KS_10 := KS.cell 10 (v := (.int .i64 0)) rfl
  have KS_11 := KS.cell 11 (v := (.int .i64 68719476736)) rfl
  have KS_12 := KS.cell 12 (v := (.int .i64 1099511627775)) rfl
  have KS_13 := KS.cell 13 (v := (.int .i64 1099511627775)) rfl
  have KS_14 := KS.cell 14 (v := (.int .i64 8)) rfl
  have KS_15 := KS.cell 15 (v := (.int .i64 68719476735)) rfl
  have KS_16 := KS.cell 16 (v := (.int .i64 1099511627776)) rfl
  have KS_17 := KS.cell 17 (v := (.int .i64 0)) rfl
  have KS_18 := KS.cell 18 (v := (.int .i64 1)) rfl
  have KS_19 := KS.cell 19 (v := (.int .i64 0)) rfl
  have KS_20 := KS.cell 20 (v := (.int .i64 0)) rfl
  have KS_21 := KS.cell 21 (v := (.int .i64 0)) rfl
  have KS_22 := KS.cell 22 (v := (.int .i64 0)) rfl
  have KS_23 := KS.cell 23 (v := (.int .i64 0)) rfl
  have KS_z := KS.lt
  have KS_f := KS.free
  go_wp2_with fail
  rw [rounds_succ]
  replace KS_0 := KS.cell 0 (v := (.int .i64 1099511627776)) rfl
  replace KS_1 := KS.cell 1 (v := (.int .i64 0)) rfl
  replace KS_2 := KS.cell 2 (v := (.int .i64 0)) rfl
  replace KS_3 := KS.cell 3 (v := (.int .i64 0)) rfl
  replace KS_4 := KS.cell 4 (v := (.int .i64 0)) rfl
  replace KS_5 := KS.cell 5 (v := (.int .i64 1099511627776)) rfl
  replace KS_6 := KS.cell 6 (v := (.int .i64 1)) rfl
  replace KS_7 := KS.cell 7 (v := (.int .i64 0)) rfl
  replace KS_8 := KS.cell 8 (v := (.int .i64 0)) rfl
  replace KS_9 := KS.cell 9 (v := (.int .i64 0)) rfl
  replace KS_10 := KS.cell 10 (v := (.int .i64 0)) rfl
  replace KS_11 := KS.cell 11 (v := (.int .i64 68719476736)) rfl
  replace KS_12 := KS.cell 12 (v := (.int .i64 1099511627775)) rfl
  replace KS_13 := KS.cell 13 (v := (.int .i64 1099511627775)) rfl
  replace KS_14 := KS.cell 14 (v := (.int .i64 8)) rfl
  replace KS_15 := KS.cell 15 (v := (.int .i64 68719476735)) rfl
  replace KS_16 := KS.cell 16 (v := (.int .i64 1099511627776)) rfl
  replace KS_17 := KS.cell 17 (v := (.int .i64 0)) rfl
  replace KS_18 := KS.cell 18 (v := (.int .i64 1)) rfl
  replace KS_19 := KS.cell 19 (v := (.int .i64 0)) rfl
  replace KS_20 := KS.cell 20 (v := (.int .i64 0)) rfl
  replace KS_21 := KS.cell 21 (v := (.int .i64 0)) rfl
  replace KS_22 := KS.cell 22 (v := (.int .i64 0)) rfl
  replace KS_23 := KS.cell 23 (v := (.int .i64 0)) rfl
  replace KS_z := KS.lt
  replace KS_f := KS.free
  go_wp2_with fail
  replace KS := KS.alloc (.cells #[(.int .i64 0), (.int .i64 0), (.int .i64 0), (.int .i64 0)] 25)
  have KK := Blk.new A49 #[(.int .i64 0), (.int .i64 0), (.int .i64 0), (.int .i64 0)] 25
  replace HF := HF.alloc (.cells #[(.int .i64 0), (.int .i64 0), (.int .i64 0), (.int .i64 0)] 25)
  replace HR := HR.alloc (.cells #[(.int .i64 0), (.int .i64 0), (.int .i64 0), (.int .i64 0)] 25)
  have KK_0 := KK.cell 0 (v := (.int .i64 0)) rfl
  have KK_1 := KK.cell 1 (v := (.int .i64 0)) rfl
  have KK_2 := KK.cell 2 (v := (.int .i64 0)) rfl
  have KK_3 := KK.cell 3 (v := (.int .i64 0)) rfl
  have KK_z := KK.lt
  have KK_f := KK.free
  refine (pack_lit 0 0 0 (by decide)).mono ?_
  rintro e A50 ⟨rfl, f⟩
  replace KS := KS.keep f (fun h => h)
  replace KK := KK.keep f (fun h => h)
  replace HF := HF.trans f
  replace HR := row_keep HR f (fun _ _ h => h)
  clear f
  clear KK
  clear KK_z
  clear KK_f
  clear KK_0
  clear KK_1
  clear KK_2
  clear KK_3
  replace KS := KS.alloc (.cells #[(.int .u64 0), (.int .u64 0)] 38)
  replace HF := HF.alloc (.cells #[(.int .u64 0), (.int .u64 0)] 38)
  replace HR := HR.alloc (.cells #[(.int .u64 0), (.int .u64 0)] 38)
  replace KS_0 := KS.cell 0 (v := (.int .i64 1099511627776)) rfl
  replace KS_1 := KS.cell 1 (v := (.int .i64 0)) rfl
  replace KS_2 := KS.cell 2 (v := (.int .i64 0)) rfl
  replace KS_3 := KS.cell 3 (v := (.int .i64 0)) rfl
  replace KS_4 := KS.cell 4 (v := (.int .i64 0)) rfl
  replace KS_5 := KS.cell 5 (v := (.int .i64 1099511627776)) rfl
  replace KS_6 := KS.cell 6 (v := (.int .i64 1)) rfl
  replace KS_7 := KS.cell 7 (v := (.int .i64 0)) rfl
  replace KS_8 := KS.cell 8 (v := (.int .i64 0)) rfl
  replace KS_9 := KS.cell 9 (v := (.int .i64 0)) rfl
  replace KS_10 := KS.cell 10 (v := (.int .i64 0)) rfl
  replace KS_11 := KS.cell 11 (v := (.int .i64 68719476736)) rfl
  replace KS_12 := KS.cell 12 (v := (.int .i64 1099511627775)) rfl
  replace KS_13 := KS.cell 13 (v := (.int .i64 1099511627775)) rfl
  replace KS_14 := KS.cell 14 (v := (.int .i64 8)) rfl
  replace KS_15 := KS.cell 15 (v := (.int .i64 68719476735)) rfl
  replace KS_16 := KS.cell 16 (v := (.int .i64 1099511627776)) rfl
  replace KS_17 := KS.cell 17 (v := (.int .i64 0)) rfl
  replace KS_18 := KS.cell 18 (v := (.int .i64 1)) rfl
  replace KS_19 := KS.cell 19 (v := (.int .i64 0)) rfl
  replace KS_20 := KS.cell 20 (v := (.int .i64 0)) rfl
  replace KS_21 := KS.cell 21 (v := (.int .i64 0)) rfl
  replace KS_22 := KS.cell 22 (v := (.int .i64 0)) rfl
  replace KS_23 := KS.cell 23 (v := (.int .i64 0)) rfl
  replace KS_z := KS.lt
  replace KS_f := KS.free
  go_wp2_with (at_builtin; go_loud (refine wpList_append_row rfl _ _ 47 rfl 26 ie (.int .i64 0) 1 8 Try.underlying47 hie hz0 hz1 hz2 rfl (by decide) _ 5 [.int .i64 9, .int .i64 9, .int .i64 9, .int .i64 0, .int .i64 2] rfl (HR.alloc (.cells #[.int .i64 0] 26)) ⟨_, 0, none⟩ 1 1 [.int .i64 0] rfl rfl (one_new' _ _ _ _ (by simp)) (one_int _ _) (by decide) (by decide) ?_))
  intro v5 A51 hown hfr hgr _
  replace KS := (KS.alloc (.cells #[.int .i64 0] 26)).keep_row (HR.alloc (.cells #[.int .i64 0] 26)) (by decide) hfr
  have HFx := HF.alloc (.cells #[.int .i64 0] 26)
  have HGn := HG.grows hgr HFx.size
  replace HF := HFx.own hfr HG
  replace HG := HGn
  replace HR := hown
  clear HGn hown hfr hgr HFx
  clear KS_0 KS_1 KS_2 KS_3 KS_4 KS_5 KS_6 KS_7 KS_8 KS_9 KS_10 KS_11 KS_12 KS_13 KS_14 KS_15 KS_16 KS_17 KS_18 KS_19 KS_20 KS_21 KS_22 KS_23 KS_z KS_f
  have KS_0 := KS.cell 0 (v := (.int .i64 1099511627776)) rfl
  have KS_1 := KS.cell 1 (v := (.int .i64 0)) rfl
  have KS_2 := KS.cell 2 (v := (.int .i64 0)) rfl
  have KS_3 := KS.cell 3 (v := (.int .i64 0)) rfl
  have KS_4 := KS.cell 4 (v := (.int .i64 0)) rfl
  have KS_5 := KS.cell 5 (v := (.int .i64 1099511627776)) rfl
  have KS_6 := KS.cell 6 (v := (.int .i64 1)) rfl
  have KS_7 := KS.cell 7 (v := (.int .i64 0)) rfl
  have KS_8 := KS.cell 8 (v := (.int .i64 0)) rfl
  have KS_9 := KS.cell 9 (v := (.int .i64 0)) rfl
  have KS_10 := KS.cell 10 (v := (.int .i64 0)) rfl
  have KS_11 := KS.cell 11 (v := (.int .i64 68719476736)) rfl
  have KS_12 := KS.cell 12 (v := (.int .i64 1099511627775)) rfl
  have KS_13 := KS.cell 13 (v := (.int .i64 1099511627775)) rfl
  have KS_14 := KS.cell 14 (v := (.int .i64 8)) rfl
  have KS_15 := KS.cell 15 (v := (.int .i64 68719476735)) rfl
  have KS_16 := KS.cell 16 (v := (.int .i64 1099511627776)) rfl
  have KS_17 := KS.cell 17 (v := (.int .i64 0)) rfl
  have KS_18 := KS.cell 18 (v := (.int .i64 1)) rfl
  have KS_19 := KS.cell 19 (v := (.int .i64 0)) rfl
  have KS_20 := KS.cell 20 (v := (.int .i64 0)) rfl
  have KS_21 := KS.cell 21 (v := (.int .i64 0)) rfl
  have KS_22 := KS.cell 22 (v := (.int .i64 0)) rfl
  have KS_23 := KS.cell 23 (v := (.int .i64 0)) rfl
  have KS_z := KS.lt
  have KS_f := KS.free
  go_wp2_with fail
  rw [rounds_succ]
  clear KS
  clear KS_z
  clear KS_f
  clear KS_0
  clear KS_1
  clear KS_2
  clear KS_3
  clear KS_4
  clear KS_5
  clear KS_6
  clear KS_7
  clear KS_8
  clear KS_9
  clear KS_10
  clear KS_11
  clear KS_12
  clear KS_13
  clear KS_14
  clear KS_15
  clear KS_16
  clear KS_17
  clear KS_18
  clear KS_19
  clear KS_20
  clear KS_21
  clear KS_22
  clear KS_23
  obtain ⟨ao, cap, rfl, _, _, _, hcell⟩ := row_form HR
  obtain ⟨g, rfl, hg, hc0, _⟩ := hcell 0 (by decide)
  try simp only [List.nil_append, List.cons_append] at hc0
  obtain ⟨g1, hg1, _, hc1, _⟩ := hcell 1 (by decide)
  obtain rfl : g = g1 := by injection hg1 with h; injection h
  clear hg1
  try simp only [List.nil_append, List.cons_append] at hc1
  obtain ⟨g2, hg2, _, hc2, _⟩ := hcell 2 (by decide)
  obtain rfl : g = g2 := by injection hg2 with h; injection h
  clear hg2
  try simp only [List.nil_append, List.cons_append] at hc2
  obtain ⟨g3, hg3, _, hc3, _⟩ := hcell 3 (by decide)
  obtain rfl : g = g3 := by injection hg3 with h; injection h
  clear hg3
  try simp only [List.nil_append, List.cons_append] at hc3
  obtain ⟨g4, hg4, _, hc4, _⟩ := hcell 4 (by decide)
  obtain rfl : g = g4 := by injection hg4 with h; injection h
  clear hg4
  try simp only [List.nil_append, List.cons_append] at hc4
  obtain ⟨g5, hg5, _, hc5, _⟩ := hcell 5 (by decide)
  obtain rfl : g = g5 := by injection hg5 with h; injection h
  clear hg5
  try simp only [List.nil_append, List.cons_append] at hc5
  replace hc0 : A51.cell? ⟨g, 0, none⟩ = some (.int .i64 9) := by rw [hc0]; rfl
  replace hc1 : A51.cell? ⟨g, 1, none⟩ = some (.int .i64 9) := by rw [hc1]; rfl
  replace hc2 : A51.cell? ⟨g, 2, none⟩ = some (.int .i64 9) := by rw [hc2]; rfl
  replace hc3 : A51.cell? ⟨g, 3, none⟩ = some (.int .i64 0) := by rw [hc3]; rfl
  replace hc4 : A51.cell? ⟨g, 4, none⟩ = some (.int .i64 2) := by rw [hc4]; rfl
  replace hc5 : A51.cell? ⟨g, 5, none⟩ = some (.int .i64 0) := by rw [hc5]; rfl
  clear hcell HR HG
  go_wp2_with fail
  refine (key_any _ _ _ _ _).mono ?_
  rintro e A52 ⟨rfl, f⟩
  replace HF := HF.trans f
  clear f
  go_wp2_with fail
  refine (pack_lit 72057594037927935 18446743592673214463 0 (by decide)).mono ?_
  rintro e A53 ⟨rfl, f⟩
  replace HF := HF.trans f
  clear f
  clear hc0 hc1 hc2 hc3 hc4 hc5
  have KF := Blk.new A53 #[(.int .u64 72057594037927935), (.int .u64 18446743592673214463)] 38
  replace HF := HF.alloc (.cells #[(.int .u64 72057594037927935), (.int .u64 18446743592673214463)] 38)
  go_wp2_with fail
  refine (unpack_lit 72057594037927936 0 0 0 0 0 2 (by decide) (by decide) (by decide) (by decide) (by decide)).mono ?_
  rintro e A54 ⟨rfl, f⟩
  replace KF := KF.keep f (fun h => h)
  replace HF := HF.trans f
  clear f
  replace KF := KF.alloc (.cells #[(.int .i64 0), (.int .i64 0), (.int .i64 0), (.int .i64 0)] 25)
  replace HF := HF.alloc (.cells #[(.int .i64 0), (.int .i64 0), (.int .i64 0), (.int .i64 0)] 25)
  go_wp2_with fail
  refine (unpack_lit 0 618475290624 0 0 0 0 2 (by decide) (by decide) (by decide) (by decide) (by decide)).mono ?_
  rintro e A55 ⟨rfl, f⟩
  replace KF := KF.keep f (fun h => h)
  replace HF := HF.trans f
  clear f
  replace KF := KF.alloc (.cells #[(.int .i64 0), (.int .i64 0), (.int .i64 0), (.int .i64 0)] 25)
  replace HF := HF.alloc (.cells #[(.int .i64 0), (.int .i64 0), (.int .i64 0), (.int .i64 0)] 25)
  go_wp2_with fail
  refine (unpack_lit 0 68719476736 0 0 0 0 2 (by decide) (by decide) (by decide) (by decide) (by decide)).mono ?_
  rintro e A56 ⟨rfl, f⟩
  replace KF := KF.keep f (fun h => h)
  replace HF := HF.trans f
  clear f
  replace KF := KF.alloc (.cells #[(.int .i64 0), (.int .i64 0), (.int .i64 0), (.int .i64 0)] 25)
  replace HF := HF.alloc (.cells #[(.int .i64 0), (.int .i64 0), (.int .i64 0), (.int .i64 0)] 25)
  go_wp2_with fail
  refine (unpack_lit 1 0 0 0 0 0 2 (by decide) (by decide) (by decide) (by decide) (by decide)).mono ?_
  rintro e A57 ⟨rfl, f⟩
  replace KF := KF.keep f (fun h => h)
  replace HF := HF.trans f
  clear f
  replace KF := KF.alloc (.cells #[(.int .i64 0), (.int .i64 0), (.int .i64 0), (.int .i64 0)] 25)
  replace HF := HF.alloc (.cells #[(.int .i64 0), (.int .i64 0), (.int .i64 0), (.int .i64 0)] 25)
  go_wp2_with fail
  refine (unpack_lit 65536 1168231104519 1 1 1 7 0 (by decide) (by decide) (by decide) (by decide) (by decide)).mono ?_
  rintro e A58 ⟨rfl, f⟩
  replace KF := KF.keep f (fun h => h)
  replace HF := HF.trans f
  clear f
  replace KF := KF.alloc (.cells #[(.int .i64 1), (.int .i64 1), (.int .i64 1), (.int .i64 7)] 25)
  have KL := Blk.new A58 #[(.int .i64 1), (.int .i64 1), (.int .i64 1), (.int .i64 7)] 25
  replace HF := HF.alloc (.cells #[(.int .i64 1), (.int .i64 1), (.int .i64 1), (.int .i64 7)] 25)
  go_wp2_with fail
  obtain ⟨ti, hti, _, hts, _⟩ := info_parts infoU64
  have heq := fun W : World => run_eql_arr2 (P := Try.prog) (w := W) 72057594037927935 18446743592673214463 72057594037927935 18446743592673214463 Try.underlying38 Try.underlying37 hti hts
  have hke := fun W => run_eql_key W 1 1 1 7 1 1 1 7
  simp only [beq_self_eq_true, Bool.and_self] at heq
  simp only [and_self, decide_true] at hke
  clear hti hts
  generalize hV : A58.alloc (.cells #[(.int .i64 1), (.int .i64 1), (.int .i64 1), (.int .i64 7)] 25) = V at *
  clear hV
  generalize A53.heap.size = pf at *
  generalize A58.heap.size = pl at *
  have KF_0 := KF.cell 0 (v := (.int .u64 72057594037927935)) rfl
  have KF_1 := KF.cell 1 (v := (.int .u64 18446743592673214463)) rfl
  have KF_z := KF.lt
  have KF_f := KF.free
  have KL_0 := KL.cell 0 (v := (.int .i64 1)) rfl
  have KL_1 := KL.cell 1 (v := (.int .i64 1)) rfl
  have KL_2 := KL.cell 2 (v := (.int .i64 1)) rfl
  have KL_3 := KL.cell 3 (v := (.int .i64 7)) rfl
  have KL_z := KL.lt
  have KL_f := KL.free
  have hacc : Fr (fun _ => False) V V.drew := (Fr.refl _ V).drew
  go_region_held3 (fun w' => w'.cell? ⟨pf, 0, none⟩ = some (.int .u64 72057594037927935) ∧ w'.cell? ⟨pf, 1, none⟩ = some (.int .u64 18446743592673214463) ∧ w'.cell? ⟨pl, 0, none⟩ = some (.int .i64 1) ∧ w'.cell? ⟨pl, 1, none⟩ = some (.int .i64 1) ∧ w'.cell? ⟨pl, 2, none⟩ = some (.int .i64 1) ∧ w'.cell? ⟨pl, 3, none⟩ = some (.int .i64 7)) (exact ⟨cell_fr hacc KF_0, cell_fr hacc KF_1, cell_fr hacc KL_0, cell_fr hacc KL_1, cell_fr hacc KL_2, cell_fr hacc KL_3⟩)
      (first
        | (go_at_call 17; refine (works_any _).mono ?_; rintro e w1 ⟨rfl, hr⟩; have hacc := hacc.trans hr)
        | (go_at_call 22; refine (key_any _ _ _ _ _).mono ?_; rintro e w1 ⟨rfl, hr⟩; have hacc := hacc.trans hr))
  go_wp2_with fail
  go_ret
  exact ⟨rfl, (HF.trans hacc).below (Nat.le_refl _) (by simp)⟩
end Go.Proofs.Ytfhhcbacnlakiaa
