/-
  WHAT THE DOCUMENT's Check OF A PACKET WITH A COMMIT ANSWERS, AND ITS Check OF COMMITS. Conditions: members that are an int.
-/
import Derived.Test.YtecngibenlcdiaaCd5
import Derived.Test.YtecngibenlcdiaaCd2
namespace Go.Proofs.Ytecngibenlcdiaa
open Go.RowKit Go.ChangeShapes Go.WideShapes Go.Deep

set_option linter.unusedSimpArgs false
set_option maxRecDepth 100000
theorem aggJoin : AggT Try.prog 69 3 := ⟨⟨_, Try.underlying69, rfl⟩, by kernel_rfl⟩
theorem aggBea : AggT Try.prog 71 3 := ⟨⟨_, Try.underlying71, rfl⟩, by kernel_rfl⟩
set_option maxHeartbeats 2000000 in
theorem same06_any (t s r m h : Int) (L : List Ent) (ao : Option Addr) (N cap : Nat) (w : World) (hv : IsEs w (.slice ao N cap) L) : Calls Try.prog 50 #[.agg #[.int .i64 4, .int .i64 t, .int .i64 0, .int .i64 0, .int .i64 0, .int .i64 0, .int .i64 0, .int .i64 0, .int .i64 0, .int .i64 0, .int .i64 0, .int .i64 0, .int .i64 0, .int .i64 0, .bool false, .int .i64 0, .int .i64 0, .int .i64 0, .int .i64 0, .slice none 0 0, .int .i64 0, .int .i64 0, .int .i64 0, .int .i64 0, .int .i64 0, .int .i64 0, .int .i64 0, .int .i64 0, .slice none 0 0, .int .i64 0, .int .i64 0, .int .i64 0, .int .i64 s, .int .i64 r, .int .i64 m, .int .i64 h, .slice ao N cap, .int .i64 0, .int .i64 0, .int .i64 0], .agg #[.int .i64 4, .int .i64 t, .int .i64 0, .int .i64 0, .int .i64 0, .int .i64 0, .int .i64 0, .int .i64 0, .int .i64 0, .int .i64 0, .int .i64 0, .int .i64 0, .int .i64 0, .int .i64 0, .bool false, .int .i64 0, .int .i64 0, .int .i64 0, .int .i64 0, .slice none 0 0, .int .i64 0, .int .i64 0, .int .i64 0, .int .i64 0, .int .i64 0, .int .i64 0, .int .i64 0, .int .i64 0, .slice none 0 0, .int .i64 0, .int .i64 0, .int .i64 0, .int .i64 s, .int .i64 r, .int .i64 m, .int .i64 h, .slice ao N cap, .int .i64 0, .int .i64 0, .int .i64 0]] w fun e w' => e = .returned (.bool true) ∧ Fr (fun _ => False) w w' := by
  have HSC := hid (fun W (f : Fr (fun _ => False) w W) => samecm_eq ⟨s, r, m, h, L⟩ (.slice ao N cap) (.slice ao N cap) W (hv.keep0 f) (hv.keep0 f))
  simp only [cv] at HSC
  clear hv
  go_enter Try.func50, Try.ntmps50
  go_wp2_with (refine wpList_boxed rfl 73 _ rfl #[.int .i64 4, .int .i64 t, .int .i64 0, .int .i64 0, .int .i64 0, .int .i64 0, .int .i64 0, .int .i64 0, .int .i64 0, .int .i64 0, .int .i64 0, .int .i64 0, .int .i64 0, .int .i64 0, .bool false, .int .i64 0, .int .i64 0, .int .i64 0, .int .i64 0, .slice none 0 0, .int .i64 0, .int .i64 0, .int .i64 0, .int .i64 0, .int .i64 0, .int .i64 0, .int .i64 0, .int .i64 0, .slice none 0 0, .int .i64 0, .int .i64 0, .int .i64 0, .int .i64 s, .int .i64 r, .int .i64 m, .int .i64 h, .slice ao N cap, .int .i64 0, .int .i64 0, .int .i64 0] rfl ?_)
  intro p w0 hp B1 f1 z1
  clear hp z1
  go_wp2_with (refine wpList_boxed rfl 73 _ rfl #[.int .i64 4, .int .i64 t, .int .i64 0, .int .i64 0, .int .i64 0, .int .i64 0, .int .i64 0, .int .i64 0, .int .i64 0, .int .i64 0, .int .i64 0, .int .i64 0, .int .i64 0, .int .i64 0, .bool false, .int .i64 0, .int .i64 0, .int .i64 0, .int .i64 0, .slice none 0 0, .int .i64 0, .int .i64 0, .int .i64 0, .int .i64 0, .int .i64 0, .int .i64 0, .int .i64 0, .int .i64 0, .slice none 0 0, .int .i64 0, .int .i64 0, .int .i64 0, .int .i64 s, .int .i64 r, .int .i64 m, .int .i64 h, .slice ao N cap, .int .i64 0, .int .i64 0, .int .i64 0] rfl ?_)
  intro q w1 hq HQ f2 z2
  have HP := B1.keep f2 (fun h => h)
  have HF := hid (f1.trans f2)
  have p0 : w1.cell? ⟨p, 0, none⟩ = some (.int .i64 4) := HP.cell 0 rfl
  have p1 : w1.cell? ⟨p, 1, none⟩ = some (.int .i64 t) := HP.cell 1 rfl
  have q0 : w1.cell? ⟨q, 0, none⟩ = some (.int .i64 4) := HQ.cell 0 rfl
  have q1 : w1.cell? ⟨q, 1, none⟩ = some (.int .i64 t) := HQ.cell 1 rfl
  clear hq z2 f1 f2 B1
  go_wp2_with (first | (refine wpList_load_part_if rfl 65 _ rfl aggData p 2 rfl HP #[.int .i64 0, .int .i64 0, .int .i64 0, .int .i64 0, .int .i64 0, .int .i64 0, .int .i64 0, .int .i64 0, .int .i64 0, .int .i64 0, .int .i64 0, .int .i64 0, .bool false, .int .i64 0, .int .i64 0, .int .i64 0, .int .i64 0, .slice none 0 0] rfl rfl ?_) | (refine wpList_load_part_if rfl 65 _ rfl aggData q 2 rfl HQ #[.int .i64 0, .int .i64 0, .int .i64 0, .int .i64 0, .int .i64 0, .int .i64 0, .int .i64 0, .int .i64 0, .int .i64 0, .int .i64 0, .int .i64 0, .int .i64 0, .bool false, .int .i64 0, .int .i64 0, .int .i64 0, .int .i64 0, .slice none 0 0] rfl rfl ?_) | (refine wpList_load_part_if rfl 67 _ rfl aggTok p 20 rfl HP #[.int .i64 0, .int .i64 0, .int .i64 0, .int .i64 0, .int .i64 0, .int .i64 0, .int .i64 0, .int .i64 0, .slice none 0 0] rfl rfl ?_) | (refine wpList_load_part_if rfl 67 _ rfl aggTok q 20 rfl HQ #[.int .i64 0, .int .i64 0, .int .i64 0, .int .i64 0, .int .i64 0, .int .i64 0, .int .i64 0, .int .i64 0, .slice none 0 0] rfl rfl ?_) | (refine wpList_load_part_if rfl 69 _ rfl aggJoin p 29 rfl HP #[.int .i64 0, .int .i64 0, .int .i64 0] rfl rfl ?_) | (refine wpList_load_part_if rfl 69 _ rfl aggJoin q 29 rfl HQ #[.int .i64 0, .int .i64 0, .int .i64 0] rfl rfl ?_) | (refine wpList_load_part_if rfl 26 _ rfl aggCm5 p 32 rfl HP #[.int .i64 s, .int .i64 r, .int .i64 m, .int .i64 h, .slice ao N cap] rfl rfl ?_) | (refine wpList_load_part_if rfl 26 _ rfl aggCm5 q 32 rfl HQ #[.int .i64 s, .int .i64 r, .int .i64 m, .int .i64 h, .slice ao N cap] rfl rfl ?_) | (refine wpList_load_part_if rfl 71 _ rfl aggBea p 37 rfl HP #[.int .i64 0, .int .i64 0, .int .i64 0] rfl rfl ?_) | (refine wpList_load_part_if rfl 71 _ rfl aggBea q 37 rfl HQ #[.int .i64 0, .int .i64 0, .int .i64 0] rfl rfl ?_))
  clear p0 p1 q0 q1
  with_reducible refine (sdata_zero _).mono ?_
  rintro e w2 ⟨rfl, f2⟩
  have HP := HP.keep f2 (fun h => h)
  have HQ := HQ.keep f2 (fun h => h)
  have HF := hid (HF.out.trans f2)
  clear f2
  go_wp2_with (first | (refine wpList_load_part_if rfl 65 _ rfl aggData p 2 rfl HP #[.int .i64 0, .int .i64 0, .int .i64 0, .int .i64 0, .int .i64 0, .int .i64 0, .int .i64 0, .int .i64 0, .int .i64 0, .int .i64 0, .int .i64 0, .int .i64 0, .bool false, .int .i64 0, .int .i64 0, .int .i64 0, .int .i64 0, .slice none 0 0] rfl rfl ?_) | (refine wpList_load_part_if rfl 65 _ rfl aggData q 2 rfl HQ #[.int .i64 0, .int .i64 0, .int .i64 0, .int .i64 0, .int .i64 0, .int .i64 0, .int .i64 0, .int .i64 0, .int .i64 0, .int .i64 0, .int .i64 0, .int .i64 0, .bool false, .int .i64 0, .int .i64 0, .int .i64 0, .int .i64 0, .slice none 0 0] rfl rfl ?_) | (refine wpList_load_part_if rfl 67 _ rfl aggTok p 20 rfl HP #[.int .i64 0, .int .i64 0, .int .i64 0, .int .i64 0, .int .i64 0, .int .i64 0, .int .i64 0, .int .i64 0, .slice none 0 0] rfl rfl ?_) | (refine wpList_load_part_if rfl 67 _ rfl aggTok q 20 rfl HQ #[.int .i64 0, .int .i64 0, .int .i64 0, .int .i64 0, .int .i64 0, .int .i64 0, .int .i64 0, .int .i64 0, .slice none 0 0] rfl rfl ?_) | (refine wpList_load_part_if rfl 69 _ rfl aggJoin p 29 rfl HP #[.int .i64 0, .int .i64 0, .int .i64 0] rfl rfl ?_) | (refine wpList_load_part_if rfl 69 _ rfl aggJoin q 29 rfl HQ #[.int .i64 0, .int .i64 0, .int .i64 0] rfl rfl ?_) | (refine wpList_load_part_if rfl 26 _ rfl aggCm5 p 32 rfl HP #[.int .i64 s, .int .i64 r, .int .i64 m, .int .i64 h, .slice ao N cap] rfl rfl ?_) | (refine wpList_load_part_if rfl 26 _ rfl aggCm5 q 32 rfl HQ #[.int .i64 s, .int .i64 r, .int .i64 m, .int .i64 h, .slice ao N cap] rfl rfl ?_) | (refine wpList_load_part_if rfl 71 _ rfl aggBea p 37 rfl HP #[.int .i64 0, .int .i64 0, .int .i64 0] rfl rfl ?_) | (refine wpList_load_part_if rfl 71 _ rfl aggBea q 37 rfl HQ #[.int .i64 0, .int .i64 0, .int .i64 0] rfl rfl ?_))
  with_reducible refine (stoken_zero _).mono ?_
  rintro e w3 ⟨rfl, f3⟩
  have HP := HP.keep f3 (fun h => h)
  have HQ := HQ.keep f3 (fun h => h)
  have HF := hid (HF.out.trans f3)
  clear f3
  go_wp2_with (first | (refine wpList_load_part_if rfl 65 _ rfl aggData p 2 rfl HP #[.int .i64 0, .int .i64 0, .int .i64 0, .int .i64 0, .int .i64 0, .int .i64 0, .int .i64 0, .int .i64 0, .int .i64 0, .int .i64 0, .int .i64 0, .int .i64 0, .bool false, .int .i64 0, .int .i64 0, .int .i64 0, .int .i64 0, .slice none 0 0] rfl rfl ?_) | (refine wpList_load_part_if rfl 65 _ rfl aggData q 2 rfl HQ #[.int .i64 0, .int .i64 0, .int .i64 0, .int .i64 0, .int .i64 0, .int .i64 0, .int .i64 0, .int .i64 0, .int .i64 0, .int .i64 0, .int .i64 0, .int .i64 0, .bool false, .int .i64 0, .int .i64 0, .int .i64 0, .int .i64 0, .slice none 0 0] rfl rfl ?_) | (refine wpList_load_part_if rfl 67 _ rfl aggTok p 20 rfl HP #[.int .i64 0, .int .i64 0, .int .i64 0, .int .i64 0, .int .i64 0, .int .i64 0, .int .i64 0, .int .i64 0, .slice none 0 0] rfl rfl ?_) | (refine wpList_load_part_if rfl 67 _ rfl aggTok q 20 rfl HQ #[.int .i64 0, .int .i64 0, .int .i64 0, .int .i64 0, .int .i64 0, .int .i64 0, .int .i64 0, .int .i64 0, .slice none 0 0] rfl rfl ?_) | (refine wpList_load_part_if rfl 69 _ rfl aggJoin p 29 rfl HP #[.int .i64 0, .int .i64 0, .int .i64 0] rfl rfl ?_) | (refine wpList_load_part_if rfl 69 _ rfl aggJoin q 29 rfl HQ #[.int .i64 0, .int .i64 0, .int .i64 0] rfl rfl ?_) | (refine wpList_load_part_if rfl 26 _ rfl aggCm5 p 32 rfl HP #[.int .i64 s, .int .i64 r, .int .i64 m, .int .i64 h, .slice ao N cap] rfl rfl ?_) | (refine wpList_load_part_if rfl 26 _ rfl aggCm5 q 32 rfl HQ #[.int .i64 s, .int .i64 r, .int .i64 m, .int .i64 h, .slice ao N cap] rfl rfl ?_) | (refine wpList_load_part_if rfl 71 _ rfl aggBea p 37 rfl HP #[.int .i64 0, .int .i64 0, .int .i64 0] rfl rfl ?_) | (refine wpList_load_part_if rfl 71 _ rfl aggBea q 37 rfl HQ #[.int .i64 0, .int .i64 0, .int .i64 0] rfl rfl ?_))
  with_reducible refine (HSC.out _ HF.out).mono ?_
  rintro e w4 ⟨rfl, f4⟩
  have HP := HP.keep f4 (fun h => h)
  have HQ := HQ.keep f4 (fun h => h)
  have HF := hid (HF.out.trans f4)
  clear f4
  go_wp2_with (first | (refine wpList_load_part_if rfl 65 _ rfl aggData p 2 rfl HP #[.int .i64 0, .int .i64 0, .int .i64 0, .int .i64 0, .int .i64 0, .int .i64 0, .int .i64 0, .int .i64 0, .int .i64 0, .int .i64 0, .int .i64 0, .int .i64 0, .bool false, .int .i64 0, .int .i64 0, .int .i64 0, .int .i64 0, .slice none 0 0] rfl rfl ?_) | (refine wpList_load_part_if rfl 65 _ rfl aggData q 2 rfl HQ #[.int .i64 0, .int .i64 0, .int .i64 0, .int .i64 0, .int .i64 0, .int .i64 0, .int .i64 0, .int .i64 0, .int .i64 0, .int .i64 0, .int .i64 0, .int .i64 0, .bool false, .int .i64 0, .int .i64 0, .int .i64 0, .int .i64 0, .slice none 0 0] rfl rfl ?_) | (refine wpList_load_part_if rfl 67 _ rfl aggTok p 20 rfl HP #[.int .i64 0, .int .i64 0, .int .i64 0, .int .i64 0, .int .i64 0, .int .i64 0, .int .i64 0, .int .i64 0, .slice none 0 0] rfl rfl ?_) | (refine wpList_load_part_if rfl 67 _ rfl aggTok q 20 rfl HQ #[.int .i64 0, .int .i64 0, .int .i64 0, .int .i64 0, .int .i64 0, .int .i64 0, .int .i64 0, .int .i64 0, .slice none 0 0] rfl rfl ?_) | (refine wpList_load_part_if rfl 69 _ rfl aggJoin p 29 rfl HP #[.int .i64 0, .int .i64 0, .int .i64 0] rfl rfl ?_) | (refine wpList_load_part_if rfl 69 _ rfl aggJoin q 29 rfl HQ #[.int .i64 0, .int .i64 0, .int .i64 0] rfl rfl ?_) | (refine wpList_load_part_if rfl 26 _ rfl aggCm5 p 32 rfl HP #[.int .i64 s, .int .i64 r, .int .i64 m, .int .i64 h, .slice ao N cap] rfl rfl ?_) | (refine wpList_load_part_if rfl 26 _ rfl aggCm5 q 32 rfl HQ #[.int .i64 s, .int .i64 r, .int .i64 m, .int .i64 h, .slice ao N cap] rfl rfl ?_) | (refine wpList_load_part_if rfl 71 _ rfl aggBea p 37 rfl HP #[.int .i64 0, .int .i64 0, .int .i64 0] rfl rfl ?_) | (refine wpList_load_part_if rfl 71 _ rfl aggBea q 37 rfl HQ #[.int .i64 0, .int .i64 0, .int .i64 0] rfl rfl ?_))
  go_ret
  exact ⟨rfl, HF.out⟩

set_option maxHeartbeats 2000000 in
theorem check06_any (t s r m h : Int) (L : List Ent) (ao : Option Addr) (N cap : Nat) (w : World) (hm : Big m) (hv : IsEs w (.slice ao N cap) L) : Calls Try.prog 39 #[.agg #[.int .i64 4, .int .i64 t, .int .i64 0, .int .i64 0, .int .i64 0, .int .i64 0, .int .i64 0, .int .i64 0, .int .i64 0, .int .i64 0, .int .i64 0, .int .i64 0, .int .i64 0, .int .i64 0, .bool false, .int .i64 0, .int .i64 0, .int .i64 0, .int .i64 0, .slice none 0 0, .int .i64 0, .int .i64 0, .int .i64 0, .int .i64 0, .int .i64 0, .int .i64 0, .int .i64 0, .int .i64 0, .slice none 0 0, .int .i64 0, .int .i64 0, .int .i64 0, .int .i64 s, .int .i64 r, .int .i64 m, .int .i64 h, .slice ao N cap, .int .i64 0, .int .i64 0, .int .i64 0]] w fun e w' => e = .returned (.int .i64 (if dOk ⟨s, r, m, h, L⟩ t then 0 else 2)) ∧ Fr (fun _ => False) w w' := by
  have HSM := hid (fun W (f : Fr (fun _ => False) w W) => same06_any t s r m h L ao N cap W (hv.keep0 f))
  have HCM := hid (fun W (f : Fr (fun _ => False) w W) => dcommit_any ⟨s, r, m, h, L⟩ (.slice ao N cap) t W (hv.keep0 f) hm)
  simp only [cv] at HCM
  generalize dOk ⟨s, r, m, h, L⟩ t = ok at *
  clear hv hm
  go_enter Try.func39, Try.ntmps39
  go_wp2_with (refine wpList_boxed rfl 73 _ rfl #[.int .i64 4, .int .i64 t, .int .i64 0, .int .i64 0, .int .i64 0, .int .i64 0, .int .i64 0, .int .i64 0, .int .i64 0, .int .i64 0, .int .i64 0, .int .i64 0, .int .i64 0, .int .i64 0, .bool false, .int .i64 0, .int .i64 0, .int .i64 0, .int .i64 0, .slice none 0 0, .int .i64 0, .int .i64 0, .int .i64 0, .int .i64 0, .int .i64 0, .int .i64 0, .int .i64 0, .int .i64 0, .slice none 0 0, .int .i64 0, .int .i64 0, .int .i64 0, .int .i64 s, .int .i64 r, .int .i64 m, .int .i64 h, .slice ao N cap, .int .i64 0, .int .i64 0, .int .i64 0] rfl ?_)
  intro p w1 hp B1 f1 z1
  have HB1 := hid B1
  have HF1 := hid f1
  clear hp z1 f1 B1
  go_wp2_with fail
  refine wp_region_held_drew (S := fun W => Blk W p #[.int .i64 4, .int .i64 t, .int .i64 0, .int .i64 0, .int .i64 0, .int .i64 0, .int .i64 0, .int .i64 0, .int .i64 0, .int .i64 0, .int .i64 0, .int .i64 0, .int .i64 0, .int .i64 0, .bool false, .int .i64 0, .int .i64 0, .int .i64 0, .int .i64 0, .slice none 0 0, .int .i64 0, .int .i64 0, .int .i64 0, .int .i64 0, .int .i64 0, .int .i64 0, .int .i64 0, .int .i64 0, .slice none 0 0, .int .i64 0, .int .i64 0, .int .i64 0, .int .i64 s, .int .i64 r, .int .i64 m, .int .i64 h, .slice ao N cap, .int .i64 0, .int .i64 0, .int .i64 0] 73) (by kernel_rfl) (HB1.out.drew) (fun hHeld => ?_)
  refine wpAnyH_take (i := 0) (v := .agg #[.int .i64 4, .int .i64 t, .int .i64 0, .int .i64 0, .int .i64 0, .int .i64 0, .int .i64 0, .int .i64 0, .int .i64 0, .int .i64 0, .int .i64 0, .int .i64 0, .int .i64 0, .int .i64 0, .bool false, .int .i64 0, .int .i64 0, .int .i64 0, .int .i64 0, .slice none 0 0, .int .i64 0, .int .i64 0, .int .i64 0, .int .i64 0, .int .i64 0, .int .i64 0, .int .i64 0, .int .i64 0, .slice none 0 0, .int .i64 0, .int .i64 0, .int .i64 0, .int .i64 s, .int .i64 r, .int .i64 m, .int .i64 h, .slice ao N cap, .int .i64 0, .int .i64 0, .int .i64 0]) rfl (by kernel_rfl) (by kernel_rfl) (by kernel_rfl) (fun _ _ _ h => h) (yields_load_part (by rfl) 73 (.tmp 1) (by rfl) aggPk p 0 (by rfl) (fun W h => h) #[.int .i64 4, .int .i64 t, .int .i64 0, .int .i64 0, .int .i64 0, .int .i64 0, .int .i64 0, .int .i64 0, .int .i64 0, .int .i64 0, .int .i64 0, .int .i64 0, .int .i64 0, .int .i64 0, .bool false, .int .i64 0, .int .i64 0, .int .i64 0, .int .i64 0, .slice none 0 0, .int .i64 0, .int .i64 0, .int .i64 0, .int .i64 0, .int .i64 0, .int .i64 0, .int .i64 0, .int .i64 0, .slice none 0 0, .int .i64 0, .int .i64 0, .int .i64 0, .int .i64 s, .int .i64 r, .int .i64 m, .int .i64 h, .slice ao N cap, .int .i64 0, .int .i64 0, .int .i64 0] (by rfl) (by rfl)) hHeld ?_
  try simp only [Act.put, List.setIfInBounds_toArray, List.set_cons_zero, List.set_cons_succ, List.getElem_toArray, List.getElem_cons_succ, List.getElem_cons_zero]
  refine wpAnyH_take (i := 1) (v := .agg #[.int .i64 4, .int .i64 t, .int .i64 0, .int .i64 0, .int .i64 0, .int .i64 0, .int .i64 0, .int .i64 0, .int .i64 0, .int .i64 0, .int .i64 0, .int .i64 0, .int .i64 0, .int .i64 0, .bool false, .int .i64 0, .int .i64 0, .int .i64 0, .int .i64 0, .slice none 0 0, .int .i64 0, .int .i64 0, .int .i64 0, .int .i64 0, .int .i64 0, .int .i64 0, .int .i64 0, .int .i64 0, .slice none 0 0, .int .i64 0, .int .i64 0, .int .i64 0, .int .i64 s, .int .i64 r, .int .i64 m, .int .i64 h, .slice ao N cap, .int .i64 0, .int .i64 0, .int .i64 0]) rfl (by kernel_rfl) (by kernel_rfl) (by kernel_rfl) (fun _ _ _ h => h) (yields_load_part (by rfl) 73 (.tmp 1) (by rfl) aggPk p 0 (by rfl) (fun W h => h) #[.int .i64 4, .int .i64 t, .int .i64 0, .int .i64 0, .int .i64 0, .int .i64 0, .int .i64 0, .int .i64 0, .int .i64 0, .int .i64 0, .int .i64 0, .int .i64 0, .int .i64 0, .int .i64 0, .bool false, .int .i64 0, .int .i64 0, .int .i64 0, .int .i64 0, .slice none 0 0, .int .i64 0, .int .i64 0, .int .i64 0, .int .i64 0, .int .i64 0, .int .i64 0, .int .i64 0, .int .i64 0, .slice none 0 0, .int .i64 0, .int .i64 0, .int .i64 0, .int .i64 s, .int .i64 r, .int .i64 m, .int .i64 h, .slice ao N cap, .int .i64 0, .int .i64 0, .int .i64 0] (by rfl) (by rfl)) hHeld ?_
  try simp only [Act.put, List.setIfInBounds_toArray, List.set_cons_zero, List.set_cons_succ, List.getElem_toArray, List.getElem_cons_succ, List.getElem_cons_zero]
  refine wpAnyH_ready (rs := [2]) (by kernel_rfl) (by simp) ?_
  refine AllReadyH.cons rfl (fun K hK => ?_) AllReadyH.nil
  clear hHeld
  go_simp
  go_at_call 51
  with_reducible refine (kept_any t s r m h ao N cap _).mono ?_
  rintro e w2 ⟨rfl, f2⟩
  have hacc := (Fr.refl (fun _ => False) w1).drew.trans f2
  clear f2
  refine hK.out _ _ (HB1.out.keep hacc (fun h => h)) (fun hHeld => ?_)
  clear hK K
  try simp only [Act.put, List.setIfInBounds_toArray, List.set_cons_zero, List.set_cons_succ, List.getElem_toArray, List.getElem_cons_succ, List.getElem_cons_zero]
  refine wpAnyH_ready (rs := [3]) (by kernel_rfl) (by simp) ?_
  refine AllReadyH.cons rfl (fun K hK => ?_) AllReadyH.nil
  clear hHeld
  go_simp
  go_at_call 50
  with_reducible refine (HSM.out _ (HF1.out.trans hacc)).mono ?_
  rintro e w3 ⟨rfl, f3⟩
  have hacc2 := hacc.trans f3
  clear f3
  refine hK.out _ _ (HB1.out.keep hacc2 (fun h => h)) (fun hHeld => ?_)
  clear hK K
  try simp only [Act.put, List.setIfInBounds_toArray, List.set_cons_zero, List.set_cons_succ, List.getElem_toArray, List.getElem_cons_succ, List.getElem_cons_zero]
  refine wpAnyH_take (i := 4) (v := ?_) rfl (by kernel_rfl) (by kernel_rfl) (by kernel_rfl) (fun _ _ _ h => h) (Or.inl ⟨by rfl, ?_⟩) hHeld ?_
  rotate_left 1
  · (intro w hSw; (try dsimp only at hSw); go_simp <;> with_reducible rfl)
  try simp only [Act.put, List.setIfInBounds_toArray, List.set_cons_zero, List.set_cons_succ, List.getElem_toArray, List.getElem_cons_succ, List.getElem_cons_zero]
  refine wpAnyH_done (by kernel_rfl) ?_ _
  clear hHeld
  have HF3 := hid (HF1.out.trans hacc2)
  have HP := HB1.out.keep hacc2 (fun h => h)
  have p0 : w3.cell? ⟨p, 0, none⟩ = some (.int .i64 4) := HP.cell 0 rfl
  have p1 : w3.cell? ⟨p, 1, none⟩ = some (.int .i64 t) := HP.cell 1 rfl
  clear hacc hacc2 HSM HB1
  go_wp2_with (refine wpList_load_part rfl 26 _ rfl aggCm5 p 32 rfl HP #[.int .i64 s, .int .i64 r, .int .i64 m, .int .i64 h, .slice ao N cap] rfl rfl ?_)
  with_reducible refine (HCM.out _ HF3.out).mono ?_
  rintro e w4 ⟨rfl, f4⟩
  have HF4 := hid (HF3.out.trans f4)
  clear p0 p1 HP f4
  cases ok <;>
  · go_wp2_with fail
    go_ret
    exact ⟨rfl, HF4.out⟩

/-! ### Check of commits -/
theorem yields_build3 {P : Program} {ops : Array Oper} {o : Oper} {a : Act} {S : World → Prop} (hgd : Region.wanted o (yielded ops a.tmps) = true) (t : TypeId) (x y z : Operand) (ho : o.op = .build t #[(0, x), (1, y), (5, z)]) (u1 u2 u3 : Value) (hx : a.eval x = u1) (hy : a.eval y = u2) (hz : a.eval z = u3) (v : Value) (hrun : ∀ W, (Instr.build t #[(0, u1), (1, u2), (5, u3)]).run P W = .ok v W) : YieldsIf P ops S o v a :=
  .inl ⟨hgd, fun w _ => by
    unfold execOp
    simp [ho, hx, hy, hz, hrun, Result.andThen]⟩
theorem build_pk3 (t s r m h : Int) (ao : Option Addr) (N cap : Nat) (W : World) : (Instr.build 73 #[(0, .int .i64 4), (1, .int .i64 t), (5, .agg #[.int .i64 s, .int .i64 r, .int .i64 m, .int .i64 h, .slice ao N cap])]).run Try.prog W = .ok (.agg #[.int .i64 4, .int .i64 t, .int .i64 0, .int .i64 0, .int .i64 0, .int .i64 0, .int .i64 0, .int .i64 0, .int .i64 0, .int .i64 0, .int .i64 0, .int .i64 0, .int .i64 0, .int .i64 0, .bool false, .int .i64 0, .int .i64 0, .int .i64 0, .int .i64 0, .slice none 0 0, .int .i64 0, .int .i64 0, .int .i64 0, .int .i64 0, .int .i64 0, .int .i64 0, .int .i64 0, .int .i64 0, .slice none 0 0, .int .i64 0, .int .i64 0, .int .i64 0, .int .i64 s, .int .i64 r, .int .i64 m, .int .i64 h, .slice ao N cap, .int .i64 0, .int .i64 0, .int .i64 0]) W := by kernel_rfl
set_option maxHeartbeats 2000000 in
theorem dcheck_any (c : Cm) (v : Value) (w : World) (hm : Big c.m) (hv : IsEs w v c.L) : Calls Try.prog 17 #[cv c v] w fun e w' => e = .returned (.int .i64 (if okC c then 0 else 2)) ∧ Fr (fun _ => False) w w' := by
  rw [← dOk_ok hm]
  have HTO := hid (fun W => dto_any c v W hm)
  obtain ⟨ao, cap, rfl, hl1, hl2⟩ := hv.len
  obtain ⟨t, ht⟩ : ∃ t, t = toD c := ⟨_, rfl⟩
  rw [← ht] at HTO ⊢
  obtain ⟨s, r, m, h, L⟩ := c
  have HCK := hid (fun W (f : Fr (fun _ => False) w W) => check06_any t s r m h L ao L.length cap W hm (hv.keep0 f))
  simp only [cv] at *
  generalize dOk ⟨s, r, m, h, L⟩ t = ok at *
  generalize (if ok = true then (0 : Int) else 2) = er at *
  generalize L.length = N at *
  clear ht hv hm hl1
  have HB0 := Blk.new w #[.int .i64 s, .int .i64 r, .int .i64 m, .int .i64 h, .slice ao N cap] 26
  have HF0 := (Fr.refl (fun _ => False) w).alloc (.cells #[.int .i64 s, .int .i64 r, .int .i64 m, .int .i64 h, .slice ao N cap] 26)
  go_enter Try.func17, Try.ntmps17
  go_upto_region 1 with (fail)
  generalize (w.alloc (.cells #[.int .i64 s, .int .i64 r, .int .i64 m, .int .i64 h, .slice ao N cap] 26)) = w1 at *
  generalize w.heap.size = p at *
  have HF1 := hid HF0
  have PS : Hid (∀ W, Fr (fun _ => False) w1 W → W.cell? ⟨p, 0, none⟩ = some (.int .i64 s) ∧ W.cell? ⟨p, 1, none⟩ = some (.int .i64 r) ∧ W.cell? ⟨p, 2, none⟩ = some (.int .i64 m) ∧ W.cell? ⟨p, 3, none⟩ = some (.int .i64 h) ∧ W.cell? ⟨p, 4, none⟩ = some (.slice ao N cap)) := hid (fun W f => by
    have hb := HB0.keep f (fun h => h)
    exact ⟨hb.cell 0 rfl, hb.cell 1 rfl, hb.cell 2 rfl, hb.cell 3 rfl, hb.cell 4 rfl⟩)
  clear HB0 HF0
  go_wp2_with fail
  refine wp_region_held_drew (S := fun W => W.cell? ⟨p, 0, none⟩ = some (.int .i64 s) ∧ W.cell? ⟨p, 1, none⟩ = some (.int .i64 r) ∧ W.cell? ⟨p, 2, none⟩ = some (.int .i64 m) ∧ W.cell? ⟨p, 3, none⟩ = some (.int .i64 h) ∧ W.cell? ⟨p, 4, none⟩ = some (.slice ao N cap)) (by kernel_rfl) (PS.out _ (Fr.refl _ _).drew) (fun hHeld => ?_)
  refine wpAnyH_take (i := 0) (v := ?_) rfl (by kernel_rfl) (by kernel_rfl) (by kernel_rfl) (fun _ _ _ h => h) (Or.inl ⟨by rfl, ?_⟩) hHeld ?_
  rotate_left 1
  · (intro w hSw; (try dsimp only at hSw); go_simp <;> with_reducible rfl)
  try simp only [Act.put, List.setIfInBounds_toArray, List.set_cons_zero, List.set_cons_succ, List.getElem_toArray, List.getElem_cons_succ, List.getElem_cons_zero]
  refine wpAnyH_take (i := 2) (v := ?_) rfl (by kernel_rfl) (by kernel_rfl) (by kernel_rfl) (fun _ _ _ h => h) (Or.inl ⟨by rfl, ?_⟩) hHeld ?_
  rotate_left 1
  · (intro w hSw; (try dsimp only at hSw); go_simp <;> with_reducible rfl)
  try simp only [Act.put, List.setIfInBounds_toArray, List.set_cons_zero, List.set_cons_succ, List.getElem_toArray, List.getElem_cons_succ, List.getElem_cons_zero]
  refine wpAnyH_ready (rs := [1]) (by kernel_rfl) (by simp) ?_
  refine AllReadyH.cons rfl (fun K hK => ?_) AllReadyH.nil
  clear hHeld
  go_simp
  go_at_call 34
  with_reducible refine (HTO.out _).mono ?_
  rintro e w2 ⟨rfl, f2⟩
  have hacc := (Fr.refl (fun _ => False) w1).drew.trans f2
  clear f2
  refine hK.out _ _ (PS.out _ hacc) (fun hHeld => ?_)
  clear hK K
  try simp only [Act.put, List.setIfInBounds_toArray, List.set_cons_zero, List.set_cons_succ, List.getElem_toArray, List.getElem_cons_succ, List.getElem_cons_zero]
  refine wpAnyH_take (i := 3) (v := .agg #[.int .i64 4, .int .i64 t, .int .i64 0, .int .i64 0, .int .i64 0, .int .i64 0, .int .i64 0, .int .i64 0, .int .i64 0, .int .i64 0, .int .i64 0, .int .i64 0, .int .i64 0, .int .i64 0, .bool false, .int .i64 0, .int .i64 0, .int .i64 0, .int .i64 0, .slice none 0 0, .int .i64 0, .int .i64 0, .int .i64 0, .int .i64 0, .int .i64 0, .int .i64 0, .int .i64 0, .int .i64 0, .slice none 0 0, .int .i64 0, .int .i64 0, .int .i64 0, .int .i64 s, .int .i64 r, .int .i64 m, .int .i64 h, .slice ao N cap, .int .i64 0, .int .i64 0, .int .i64 0]) rfl (by kernel_rfl) (by kernel_rfl) (by kernel_rfl) (fun _ _ _ h => h) (yields_build3 (by rfl) 73 (.const (.int .i64 4)) (.tmp 4) (.tmp 5) (by rfl) (.int .i64 4) (.int .i64 t) (.agg #[.int .i64 s, .int .i64 r, .int .i64 m, .int .i64 h, .slice ao N cap]) (by rfl) (by rfl) (by rfl) (.agg #[.int .i64 4, .int .i64 t, .int .i64 0, .int .i64 0, .int .i64 0, .int .i64 0, .int .i64 0, .int .i64 0, .int .i64 0, .int .i64 0, .int .i64 0, .int .i64 0, .int .i64 0, .int .i64 0, .bool false, .int .i64 0, .int .i64 0, .int .i64 0, .int .i64 0, .slice none 0 0, .int .i64 0, .int .i64 0, .int .i64 0, .int .i64 0, .int .i64 0, .int .i64 0, .int .i64 0, .int .i64 0, .slice none 0 0, .int .i64 0, .int .i64 0, .int .i64 0, .int .i64 s, .int .i64 r, .int .i64 m, .int .i64 h, .slice ao N cap, .int .i64 0, .int .i64 0, .int .i64 0]) (build_pk3 t s r m h ao N cap)) hHeld ?_
  try simp only [Act.put, List.setIfInBounds_toArray, List.set_cons_zero, List.set_cons_succ, List.getElem_toArray, List.getElem_cons_succ, List.getElem_cons_zero]
  refine wpAnyH_ready (rs := [4]) (by kernel_rfl) (by simp) ?_
  refine AllReadyH.cons rfl (fun K hK => ?_) AllReadyH.nil
  clear hHeld
  go_simp
  go_at_call 39
  with_reducible refine (HCK.out _ (HF1.out.trans hacc)).mono ?_
  rintro e w3 ⟨rfl, f3⟩
  have hacc2 := hacc.trans f3
  clear f3
  refine hK.out _ _ (PS.out _ hacc2) (fun hHeld => ?_)
  clear hK K
  try simp only [Act.put, List.setIfInBounds_toArray, List.set_cons_zero, List.set_cons_succ, List.getElem_toArray, List.getElem_cons_succ, List.getElem_cons_zero]
  refine wpAnyH_take (i := 5) (v := ?_) rfl (by kernel_rfl) (by kernel_rfl) (by kernel_rfl) (fun _ _ _ h => h) (Or.inl ⟨by rfl, ?_⟩) hHeld ?_
  rotate_left 1
  · (intro w hSw; (try dsimp only at hSw); go_simp <;> with_reducible rfl)
  try simp only [Act.put, List.setIfInBounds_toArray, List.set_cons_zero, List.set_cons_succ, List.getElem_toArray, List.getElem_cons_succ, List.getElem_cons_zero]
  refine wpAnyH_done (by kernel_rfl) ?_ _
  clear hHeld
  go_wp2_with fail
  go_ret
  exact ⟨rfl, HF1.out.trans hacc2⟩
end Go.Proofs.Ytecngibenlcdiaa
