/-
  THE STATEMENTS' OWN 'works' OF gather. Conditions: none.
-/
import Derived.Test.YtimfpkiknmnnmaaHears
namespace Go.Proofs.Ytimfpkiknmnnmaa
open Go.RowKit

set_option maxRecDepth 100000 in
set_option maxHeartbeats 4000000 in
theorem works_any (w : World) : Calls Try.prog 10 #[] w fun e w' => e = .returned (.bool true) ∧ Fr (fun _ => False) w w' := by
  have hne := run_neq_join
  have heq := run_eql_join
  go_enter Try.func10, Try.ntmps10
  go_wp2_with fail
  refine (new_any 2 5 _ (by decide) (by decide) (by decide) (by decide)).mono ?_
  rintro e w1 ⟨g, b, rfl, hG, hA, hg, hb⟩
  replace hG := hG.hid
  replace hA := hid hA
  replace hg := hid hg
  replace hb := hid hb
  go_wp2_with fail
  refine (own_c 4 _ hG.out (by kernel_rfl)).mono ?_
  rintro e w1 ⟨rfl, hG', f⟩
  replace hG := hG'.hid
  clear hG'
  replace hA := hid (hA.out.trans f)
  clear f
  go_wp2_with fail
  refine (join_c _ _ _ _).mono ?_
  rintro e w1 ⟨rfl, f⟩
  replace hG := (hG.out.keep0 f).hid
  replace hA := hid (hA.out.trans f)
  clear f
  go_wp2_with fail
  refine (agreed_c true _ hG.out (by kernel_rfl)).mono ?_
  rintro e w1 ⟨rfl, hG', f⟩
  replace hG := hG'.hid
  clear hG'
  replace hA := hid (hA.out.trans f)
  clear f
  go_wp2_with fail
  refine (join_c _ _ _ _).mono ?_
  rintro e w1 ⟨rfl, f⟩
  replace hG := (hG.out.keep0 f).hid
  replace hA := hid (hA.out.trans f)
  clear f
  go_wp2_with fail
  refine (hears_c 3 12 9 3 9 [(3, 12, 9)] _ hG.out (by kernel_rfl) (by kernel_rfl) (by kernel_rfl)).mono ?_
  rintro e w1 ⟨rfl, hG', f⟩
  replace hA := hid (hA.out.mine f hg.out hb.out)
  replace hG := hG'.hid
  clear hG' f
  go_wp2_with fail
  refine (own_c 12 _ hG.out (by kernel_rfl)).mono ?_
  rintro e w1 ⟨rfl, hG', f⟩
  replace hG := hG'.hid
  clear hG'
  replace hA := hid (hA.out.trans f)
  clear f
  go_wp2_with fail
  refine (join_c _ _ _ _).mono ?_
  rintro e w1 ⟨rfl, f⟩
  replace hG := (hG.out.keep0 f).hid
  replace hA := hid (hA.out.trans f)
  clear f
  go_wp2_with fail
  refine (agreed_c true _ hG.out (by kernel_rfl)).mono ?_
  rintro e w1 ⟨rfl, hG', f⟩
  replace hG := hG'.hid
  clear hG'
  replace hA := hid (hA.out.trans f)
  clear f
  go_wp2_with fail
  refine (counter_any _ hG.out).mono ?_
  rintro e w1 ⟨rfl, rfl⟩
  go_wp2_with fail
  refine (join_c _ _ _ _).mono ?_
  rintro e w1 ⟨rfl, f⟩
  replace hG := (hG.out.keep0 f).hid
  replace hA := hid (hA.out.trans f)
  clear f
  go_wp2_with fail
  refine (hears_c 3 12 9 0 9 [(3, 12, 9)] _ hG.out (by kernel_rfl) (by kernel_rfl) (by kernel_rfl)).mono ?_
  rintro e w1 ⟨rfl, hG', f⟩
  replace hA := hid (hA.out.mine f hg.out hb.out)
  replace hG := hG'.hid
  clear hG' f
  go_wp2_with fail
  refine (join_c _ _ _ _).mono ?_
  rintro e w1 ⟨rfl, f⟩
  replace hG := (hG.out.keep0 f).hid
  replace hA := hid (hA.out.trans f)
  clear f
  go_wp2_with fail
  refine (hears_c 3 8 1 2 9 [(3, 8, 1)] _ hG.out (by kernel_rfl) (by kernel_rfl) (by kernel_rfl)).mono ?_
  rintro e w1 ⟨rfl, hG', f⟩
  replace hA := hid (hA.out.mine f hg.out hb.out)
  replace hG := hG'.hid
  clear hG' f
  go_wp2_with fail
  refine (agreed_c false _ hG.out (by kernel_rfl)).mono ?_
  rintro e w1 ⟨rfl, hG', f⟩
  replace hG := hG'.hid
  clear hG'
  replace hA := hid (hA.out.trans f)
  clear f
  go_wp2_with fail
  refine (counter_any _ hG.out).mono ?_
  rintro e w1 ⟨rfl, rfl⟩
  go_wp2_with fail
  refine (join_c _ _ _ _).mono ?_
  rintro e w1 ⟨rfl, f⟩
  replace hG := (hG.out.keep0 f).hid
  replace hA := hid (hA.out.trans f)
  clear f
  go_wp2_with fail
  refine (hears_c 1 14 0 3 9 [(3, 8, 1), (1, 14, 0)] _ hG.out (by kernel_rfl) (by kernel_rfl) (by kernel_rfl)).mono ?_
  rintro e w1 ⟨rfl, hG', f⟩
  replace hA := hid (hA.out.mine f hg.out hb.out)
  replace hG := hG'.hid
  clear hG' f
  go_wp2_with fail
  refine (own_c 14 _ hG.out (by kernel_rfl)).mono ?_
  rintro e w1 ⟨rfl, hG', f⟩
  replace hG := hG'.hid
  clear hG'
  replace hA := hid (hA.out.trans f)
  clear f
  go_wp2_with fail
  refine (join_c _ _ _ _).mono ?_
  rintro e w1 ⟨rfl, f⟩
  replace hG := (hG.out.keep0 f).hid
  replace hA := hid (hA.out.trans f)
  clear f
  go_wp2_with fail
  go_ret
  exact ⟨rfl, hA.out⟩
end Go.Proofs.Ytimfpkiknmnnmaa
