/-
  THE WALK OF 'MarkOrders'. Conditions: none.
-/
import Derived.Test.YtfhhcbacnlakiaaMarkWorks
import Derived.Test.YtfhhcbacnlakiaaMarkRef
import Derived.Test.YtfhhcbacnlakiaaMarkArgs
import Derived.LoopN
namespace Go.Proofs.Ytfhhcbacnlakiaa
open Go.RowKit

set_option maxRecDepth 100000 in
set_option maxHeartbeats 8000000 in
theorem orders_walk (v0 v1 : Value) (w : World) (w0 : IsKey v0) (w1 : IsKey v1) :
    Calls Try.prog 3 #[v0, v1] w fun e w' => e = .returned (.bool true) ∧ Below w.heap.size w w' := by
  obtain ⟨s, a, b, q, rfl, _, _, _, _⟩ := w0
  obtain ⟨t, c, d, r, rfl, _, _, _, _⟩ := w1
  have ⟨K0, L0, HF⟩ := blk2 w #[.int .i64 s, .int .i64 a, .int .i64 b, .int .i64 q] #[.int .i64 t, .int .i64 c, .int .i64 d, .int .i64 r] 25 25
  go_enter Try.func3, Try.ntmps3
  go_wp2_with fail
  generalize hW : (w.alloc (.cells #[.int .i64 s, .int .i64 a, .int .i64 b, .int .i64 q] 25)).alloc (.cells #[.int .i64 t, .int .i64 c, .int .i64 d, .int .i64 r] 25) = W at *
  clear hW
  generalize w.heap.size + 1 = p1 at *
  generalize hp : w.heap.size = p at *
  have HP := hid hp
  clear hp
  have k0 := K0.cell 0 (v := .int .i64 s) rfl
  have k1 := K0.cell 1 (v := .int .i64 a) rfl
  have k2 := K0.cell 2 (v := .int .i64 b) rfl
  have k3 := K0.cell 3 (v := .int .i64 q) rfl
  have hacc : Fr (fun _ => False) W W.drew := (Fr.refl _ W).drew
  go_region_held3 (fun w' => w'.cell? ⟨p, 0, none⟩ = some (.int .i64 s) ∧ w'.cell? ⟨p, 1, none⟩ = some (.int .i64 a) ∧ w'.cell? ⟨p, 2, none⟩ = some (.int .i64 b) ∧ w'.cell? ⟨p, 3, none⟩ = some (.int .i64 q)) (exact ⟨cell_fr hacc k0, cell_fr hacc k1, cell_fr hacc k2, cell_fr hacc k3⟩)
    (first
      | (go_at_call 9; refine (checkring_any _ _ _).mono ?_; rintro e w1 ⟨rfl, hr⟩; have hacc := hacc.trans hr)
      | (go_at_call 10; refine (rcheckring_any _ _ _).mono ?_; rintro e w1 ⟨rfl, hr⟩; have hacc := hacc.trans hr)
      | (go_at_call 11; refine (check_any _ _ _ _ _).mono ?_; rintro e w1 ⟨rfl, hr⟩; have hacc := hacc.trans hr)
      | (go_at_call 12; refine (rcheck_any _ _ _ _ _).mono ?_; rintro e w1 ⟨rfl, hr⟩; have hacc := hacc.trans hr))
  have K1 := K0.keep hacc (fun h => h)
  have L1 := L0.keep hacc (fun h => h)
  have HF := HF.trans hacc
  clear K0 L0 k0 k1 k2 k3 hacc
  clear hr
  go_wp2_with fail
  refine wp_loop_rounds 9 ?_
  rw [rounds_succ]
  have k0 := K1.cell 0 (v := .int .i64 s) rfl
  have k1 := K1.cell 1 (v := .int .i64 a) rfl
  have k2 := K1.cell 2 (v := .int .i64 b) rfl
  have k3 := K1.cell 3 (v := .int .i64 q) rfl
  have l0 := L1.cell 0 (v := .int .i64 t) rfl
  have l1 := L1.cell 1 (v := .int .i64 c) rfl
  have l2 := L1.cell 2 (v := .int .i64 d) rfl
  have l3 := L1.cell 3 (v := .int .i64 r) rfl
  have kz := K1.lt
  have lz := L1.lt
  go_wp2_with fail
  clear k0 k1 k2 k3 l0 l1 l2 l3 kz lz
  have KA := K1.alloc (.cells #[.int .i64 t, .int .i64 c, .int .i64 d, .int .i64 r] 25)
  have LA := L1.alloc (.cells #[.int .i64 t, .int .i64 c, .int .i64 d, .int .i64 r] 25)
  have CA := Blk.new w1 #[.int .i64 t, .int .i64 c, .int .i64 d, .int .i64 r] 25
  have HF := HF.alloc (.cells #[.int .i64 t, .int .i64 c, .int .i64 d, .int .i64 r] 25)
  clear K1 L1
  generalize hV : w1.alloc (.cells #[.int .i64 t, .int .i64 c, .int .i64 d, .int .i64 r] 25) = V at *
  clear hV
  generalize w1.heap.size = n at *
  have k0 := KA.cell 0 (v := .int .i64 s) rfl
  have k1 := KA.cell 1 (v := .int .i64 a) rfl
  have k2 := KA.cell 2 (v := .int .i64 b) rfl
  have k3 := KA.cell 3 (v := .int .i64 q) rfl
  have m0 := CA.cell 0 (v := .int .i64 t) rfl
  have m1 := CA.cell 1 (v := .int .i64 c) rfl
  have m2 := CA.cell 2 (v := .int .i64 d) rfl
  have m3 := CA.cell 3 (v := .int .i64 r) rfl
  have hacc : Fr (fun _ => False) V V.drew := (Fr.refl _ V).drew
  go_region_held3 (fun w' => w'.cell? ⟨p, 0, none⟩ = some (.int .i64 s) ∧ w'.cell? ⟨p, 1, none⟩ = some (.int .i64 a) ∧ w'.cell? ⟨p, 2, none⟩ = some (.int .i64 b) ∧ w'.cell? ⟨p, 3, none⟩ = some (.int .i64 q) ∧ w'.cell? ⟨n, 0, none⟩ = some (.int .i64 t) ∧ w'.cell? ⟨n, 1, none⟩ = some (.int .i64 c) ∧ w'.cell? ⟨n, 2, none⟩ = some (.int .i64 d) ∧ w'.cell? ⟨n, 3, none⟩ = some (.int .i64 r)) (exact ⟨cell_fr hacc k0, cell_fr hacc k1, cell_fr hacc k2, cell_fr hacc k3, cell_fr hacc m0, cell_fr hacc m1, cell_fr hacc m2, cell_fr hacc m3⟩)
    (first
      | (go_at_call 13; refine (rings_any _ _ _ _ _).mono ?_; rintro e w1 ⟨rfl, hr⟩; have hacc := hacc.trans hr)
      | (go_at_call 14; refine (rrings_any _ _ _ _ _).mono ?_; rintro e w1 ⟨rfl, hr⟩; have hacc := hacc.trans hr)
      | (go_at_call 15; refine (keys_any _ _ _ _ _ _ _ _ _).mono ?_; rintro e w1 ⟨rfl, hr⟩; have hacc := hacc.trans hr)
      | (go_at_call 16; refine (rkeys_any _ _ _ _ _ _ _ _ _).mono ?_; rintro e w1 ⟨rfl, hr⟩; have hacc := hacc.trans hr))
  have K2 := KA.keep hacc (fun h => h)
  have L2 := LA.keep hacc (fun h => h)
  have HF := HF.trans hacc
  clear KA LA CA k0 k1 k2 k3 m0 m1 m2 m3 hacc hr
  go_wp2_with fail
  rw [rounds_succ]
  have k0 := K2.cell 0 (v := .int .i64 s) rfl
  have k1 := K2.cell 1 (v := .int .i64 a) rfl
  have k2 := K2.cell 2 (v := .int .i64 b) rfl
  have k3 := K2.cell 3 (v := .int .i64 q) rfl
  have l0 := L2.cell 0 (v := .int .i64 t) rfl
  have l1 := L2.cell 1 (v := .int .i64 c) rfl
  have l2 := L2.cell 2 (v := .int .i64 d) rfl
  have l3 := L2.cell 3 (v := .int .i64 r) rfl
  have kz := K2.lt
  have lz := L2.lt
  go_wp2_with fail
  clear k0 k1 k2 k3 l0 l1 l2 l3 kz lz
  have KA := K2.alloc (.cells #[.int .i64 s, .int .i64 c, .int .i64 d, .int .i64 r] 25)
  have LA := L2.alloc (.cells #[.int .i64 s, .int .i64 c, .int .i64 d, .int .i64 r] 25)
  have CA := Blk.new w1 #[.int .i64 s, .int .i64 c, .int .i64 d, .int .i64 r] 25
  have HF := HF.alloc (.cells #[.int .i64 s, .int .i64 c, .int .i64 d, .int .i64 r] 25)
  clear K2 L2
  generalize hV : w1.alloc (.cells #[.int .i64 s, .int .i64 c, .int .i64 d, .int .i64 r] 25) = V at *
  clear hV
  generalize w1.heap.size = n at *
  have k0 := KA.cell 0 (v := .int .i64 s) rfl
  have k1 := KA.cell 1 (v := .int .i64 a) rfl
  have k2 := KA.cell 2 (v := .int .i64 b) rfl
  have k3 := KA.cell 3 (v := .int .i64 q) rfl
  have m0 := CA.cell 0 (v := .int .i64 s) rfl
  have m1 := CA.cell 1 (v := .int .i64 c) rfl
  have m2 := CA.cell 2 (v := .int .i64 d) rfl
  have m3 := CA.cell 3 (v := .int .i64 r) rfl
  have hacc : Fr (fun _ => False) V V.drew := (Fr.refl _ V).drew
  go_region_held3 (fun w' => w'.cell? ⟨p, 0, none⟩ = some (.int .i64 s) ∧ w'.cell? ⟨p, 1, none⟩ = some (.int .i64 a) ∧ w'.cell? ⟨p, 2, none⟩ = some (.int .i64 b) ∧ w'.cell? ⟨p, 3, none⟩ = some (.int .i64 q) ∧ w'.cell? ⟨n, 0, none⟩ = some (.int .i64 s) ∧ w'.cell? ⟨n, 1, none⟩ = some (.int .i64 c) ∧ w'.cell? ⟨n, 2, none⟩ = some (.int .i64 d) ∧ w'.cell? ⟨n, 3, none⟩ = some (.int .i64 r)) (exact ⟨cell_fr hacc k0, cell_fr hacc k1, cell_fr hacc k2, cell_fr hacc k3, cell_fr hacc m0, cell_fr hacc m1, cell_fr hacc m2, cell_fr hacc m3⟩)
    (first
      | (go_at_call 13; refine (rings_any _ _ _ _ _).mono ?_; rintro e w1 ⟨rfl, hr⟩; have hacc := hacc.trans hr)
      | (go_at_call 14; refine (rrings_any _ _ _ _ _).mono ?_; rintro e w1 ⟨rfl, hr⟩; have hacc := hacc.trans hr)
      | (go_at_call 15; refine (keys_any _ _ _ _ _ _ _ _ _).mono ?_; rintro e w1 ⟨rfl, hr⟩; have hacc := hacc.trans hr)
      | (go_at_call 16; refine (rkeys_any _ _ _ _ _ _ _ _ _).mono ?_; rintro e w1 ⟨rfl, hr⟩; have hacc := hacc.trans hr))
  have K3 := KA.keep hacc (fun h => h)
  have L3 := LA.keep hacc (fun h => h)
  have HF := HF.trans hacc
  clear KA LA CA k0 k1 k2 k3 m0 m1 m2 m3 hacc hr
  go_wp2_with fail
  rw [rounds_succ]
  have k0 := K3.cell 0 (v := .int .i64 s) rfl
  have k1 := K3.cell 1 (v := .int .i64 a) rfl
  have k2 := K3.cell 2 (v := .int .i64 b) rfl
  have k3 := K3.cell 3 (v := .int .i64 q) rfl
  have l0 := L3.cell 0 (v := .int .i64 t) rfl
  have l1 := L3.cell 1 (v := .int .i64 c) rfl
  have l2 := L3.cell 2 (v := .int .i64 d) rfl
  have l3 := L3.cell 3 (v := .int .i64 r) rfl
  have kz := K3.lt
  have lz := L3.lt
  go_wp2_with fail
  clear k0 k1 k2 k3 l0 l1 l2 l3 kz lz
  have KA := K3.alloc (.cells #[.int .i64 t, .int .i64 a, .int .i64 d, .int .i64 r] 25)
  have LA := L3.alloc (.cells #[.int .i64 t, .int .i64 a, .int .i64 d, .int .i64 r] 25)
  have CA := Blk.new w1 #[.int .i64 t, .int .i64 a, .int .i64 d, .int .i64 r] 25
  have HF := HF.alloc (.cells #[.int .i64 t, .int .i64 a, .int .i64 d, .int .i64 r] 25)
  clear K3 L3
  generalize hV : w1.alloc (.cells #[.int .i64 t, .int .i64 a, .int .i64 d, .int .i64 r] 25) = V at *
  clear hV
  generalize w1.heap.size = n at *
  have k0 := KA.cell 0 (v := .int .i64 s) rfl
  have k1 := KA.cell 1 (v := .int .i64 a) rfl
  have k2 := KA.cell 2 (v := .int .i64 b) rfl
  have k3 := KA.cell 3 (v := .int .i64 q) rfl
  have m0 := CA.cell 0 (v := .int .i64 t) rfl
  have m1 := CA.cell 1 (v := .int .i64 a) rfl
  have m2 := CA.cell 2 (v := .int .i64 d) rfl
  have m3 := CA.cell 3 (v := .int .i64 r) rfl
  have hacc : Fr (fun _ => False) V V.drew := (Fr.refl _ V).drew
  go_region_held3 (fun w' => w'.cell? ⟨p, 0, none⟩ = some (.int .i64 s) ∧ w'.cell? ⟨p, 1, none⟩ = some (.int .i64 a) ∧ w'.cell? ⟨p, 2, none⟩ = some (.int .i64 b) ∧ w'.cell? ⟨p, 3, none⟩ = some (.int .i64 q) ∧ w'.cell? ⟨n, 0, none⟩ = some (.int .i64 t) ∧ w'.cell? ⟨n, 1, none⟩ = some (.int .i64 a) ∧ w'.cell? ⟨n, 2, none⟩ = some (.int .i64 d) ∧ w'.cell? ⟨n, 3, none⟩ = some (.int .i64 r)) (exact ⟨cell_fr hacc k0, cell_fr hacc k1, cell_fr hacc k2, cell_fr hacc k3, cell_fr hacc m0, cell_fr hacc m1, cell_fr hacc m2, cell_fr hacc m3⟩)
    (first
      | (go_at_call 13; refine (rings_any _ _ _ _ _).mono ?_; rintro e w1 ⟨rfl, hr⟩; have hacc := hacc.trans hr)
      | (go_at_call 14; refine (rrings_any _ _ _ _ _).mono ?_; rintro e w1 ⟨rfl, hr⟩; have hacc := hacc.trans hr)
      | (go_at_call 15; refine (keys_any _ _ _ _ _ _ _ _ _).mono ?_; rintro e w1 ⟨rfl, hr⟩; have hacc := hacc.trans hr)
      | (go_at_call 16; refine (rkeys_any _ _ _ _ _ _ _ _ _).mono ?_; rintro e w1 ⟨rfl, hr⟩; have hacc := hacc.trans hr))
  have K4 := KA.keep hacc (fun h => h)
  have L4 := LA.keep hacc (fun h => h)
  have HF := HF.trans hacc
  clear KA LA CA k0 k1 k2 k3 m0 m1 m2 m3 hacc hr
  go_wp2_with fail
  rw [rounds_succ]
  have k0 := K4.cell 0 (v := .int .i64 s) rfl
  have k1 := K4.cell 1 (v := .int .i64 a) rfl
  have k2 := K4.cell 2 (v := .int .i64 b) rfl
  have k3 := K4.cell 3 (v := .int .i64 q) rfl
  have l0 := L4.cell 0 (v := .int .i64 t) rfl
  have l1 := L4.cell 1 (v := .int .i64 c) rfl
  have l2 := L4.cell 2 (v := .int .i64 d) rfl
  have l3 := L4.cell 3 (v := .int .i64 r) rfl
  have kz := K4.lt
  have lz := L4.lt
  go_wp2_with fail
  clear k0 k1 k2 k3 l0 l1 l2 l3 kz lz
  have KA := K4.alloc (.cells #[.int .i64 s, .int .i64 a, .int .i64 d, .int .i64 r] 25)
  have LA := L4.alloc (.cells #[.int .i64 s, .int .i64 a, .int .i64 d, .int .i64 r] 25)
  have CA := Blk.new w1 #[.int .i64 s, .int .i64 a, .int .i64 d, .int .i64 r] 25
  have HF := HF.alloc (.cells #[.int .i64 s, .int .i64 a, .int .i64 d, .int .i64 r] 25)
  clear K4 L4
  generalize hV : w1.alloc (.cells #[.int .i64 s, .int .i64 a, .int .i64 d, .int .i64 r] 25) = V at *
  clear hV
  generalize w1.heap.size = n at *
  have k0 := KA.cell 0 (v := .int .i64 s) rfl
  have k1 := KA.cell 1 (v := .int .i64 a) rfl
  have k2 := KA.cell 2 (v := .int .i64 b) rfl
  have k3 := KA.cell 3 (v := .int .i64 q) rfl
  have m0 := CA.cell 0 (v := .int .i64 s) rfl
  have m1 := CA.cell 1 (v := .int .i64 a) rfl
  have m2 := CA.cell 2 (v := .int .i64 d) rfl
  have m3 := CA.cell 3 (v := .int .i64 r) rfl
  have hacc : Fr (fun _ => False) V V.drew := (Fr.refl _ V).drew
  go_region_held3 (fun w' => w'.cell? ⟨p, 0, none⟩ = some (.int .i64 s) ∧ w'.cell? ⟨p, 1, none⟩ = some (.int .i64 a) ∧ w'.cell? ⟨p, 2, none⟩ = some (.int .i64 b) ∧ w'.cell? ⟨p, 3, none⟩ = some (.int .i64 q) ∧ w'.cell? ⟨n, 0, none⟩ = some (.int .i64 s) ∧ w'.cell? ⟨n, 1, none⟩ = some (.int .i64 a) ∧ w'.cell? ⟨n, 2, none⟩ = some (.int .i64 d) ∧ w'.cell? ⟨n, 3, none⟩ = some (.int .i64 r)) (exact ⟨cell_fr hacc k0, cell_fr hacc k1, cell_fr hacc k2, cell_fr hacc k3, cell_fr hacc m0, cell_fr hacc m1, cell_fr hacc m2, cell_fr hacc m3⟩)
    (first
      | (go_at_call 13; refine (rings_any _ _ _ _ _).mono ?_; rintro e w1 ⟨rfl, hr⟩; have hacc := hacc.trans hr)
      | (go_at_call 14; refine (rrings_any _ _ _ _ _).mono ?_; rintro e w1 ⟨rfl, hr⟩; have hacc := hacc.trans hr)
      | (go_at_call 15; refine (keys_any _ _ _ _ _ _ _ _ _).mono ?_; rintro e w1 ⟨rfl, hr⟩; have hacc := hacc.trans hr)
      | (go_at_call 16; refine (rkeys_any _ _ _ _ _ _ _ _ _).mono ?_; rintro e w1 ⟨rfl, hr⟩; have hacc := hacc.trans hr))
  have K5 := KA.keep hacc (fun h => h)
  have L5 := LA.keep hacc (fun h => h)
  have HF := HF.trans hacc
  clear KA LA CA k0 k1 k2 k3 m0 m1 m2 m3 hacc hr
  go_wp2_with fail
  rw [rounds_succ]
  have k0 := K5.cell 0 (v := .int .i64 s) rfl
  have k1 := K5.cell 1 (v := .int .i64 a) rfl
  have k2 := K5.cell 2 (v := .int .i64 b) rfl
  have k3 := K5.cell 3 (v := .int .i64 q) rfl
  have l0 := L5.cell 0 (v := .int .i64 t) rfl
  have l1 := L5.cell 1 (v := .int .i64 c) rfl
  have l2 := L5.cell 2 (v := .int .i64 d) rfl
  have l3 := L5.cell 3 (v := .int .i64 r) rfl
  have kz := K5.lt
  have lz := L5.lt
  go_wp2_with fail
  clear k0 k1 k2 k3 l0 l1 l2 l3 kz lz
  have KA := K5.alloc (.cells #[.int .i64 t, .int .i64 c, .int .i64 b, .int .i64 r] 25)
  have LA := L5.alloc (.cells #[.int .i64 t, .int .i64 c, .int .i64 b, .int .i64 r] 25)
  have CA := Blk.new w1 #[.int .i64 t, .int .i64 c, .int .i64 b, .int .i64 r] 25
  have HF := HF.alloc (.cells #[.int .i64 t, .int .i64 c, .int .i64 b, .int .i64 r] 25)
  clear K5 L5
  generalize hV : w1.alloc (.cells #[.int .i64 t, .int .i64 c, .int .i64 b, .int .i64 r] 25) = V at *
  clear hV
  generalize w1.heap.size = n at *
  have k0 := KA.cell 0 (v := .int .i64 s) rfl
  have k1 := KA.cell 1 (v := .int .i64 a) rfl
  have k2 := KA.cell 2 (v := .int .i64 b) rfl
  have k3 := KA.cell 3 (v := .int .i64 q) rfl
  have m0 := CA.cell 0 (v := .int .i64 t) rfl
  have m1 := CA.cell 1 (v := .int .i64 c) rfl
  have m2 := CA.cell 2 (v := .int .i64 b) rfl
  have m3 := CA.cell 3 (v := .int .i64 r) rfl
  have hacc : Fr (fun _ => False) V V.drew := (Fr.refl _ V).drew
  go_region_held3 (fun w' => w'.cell? ⟨p, 0, none⟩ = some (.int .i64 s) ∧ w'.cell? ⟨p, 1, none⟩ = some (.int .i64 a) ∧ w'.cell? ⟨p, 2, none⟩ = some (.int .i64 b) ∧ w'.cell? ⟨p, 3, none⟩ = some (.int .i64 q) ∧ w'.cell? ⟨n, 0, none⟩ = some (.int .i64 t) ∧ w'.cell? ⟨n, 1, none⟩ = some (.int .i64 c) ∧ w'.cell? ⟨n, 2, none⟩ = some (.int .i64 b) ∧ w'.cell? ⟨n, 3, none⟩ = some (.int .i64 r)) (exact ⟨cell_fr hacc k0, cell_fr hacc k1, cell_fr hacc k2, cell_fr hacc k3, cell_fr hacc m0, cell_fr hacc m1, cell_fr hacc m2, cell_fr hacc m3⟩)
    (first
      | (go_at_call 13; refine (rings_any _ _ _ _ _).mono ?_; rintro e w1 ⟨rfl, hr⟩; have hacc := hacc.trans hr)
      | (go_at_call 14; refine (rrings_any _ _ _ _ _).mono ?_; rintro e w1 ⟨rfl, hr⟩; have hacc := hacc.trans hr)
      | (go_at_call 15; refine (keys_any _ _ _ _ _ _ _ _ _).mono ?_; rintro e w1 ⟨rfl, hr⟩; have hacc := hacc.trans hr)
      | (go_at_call 16; refine (rkeys_any _ _ _ _ _ _ _ _ _).mono ?_; rintro e w1 ⟨rfl, hr⟩; have hacc := hacc.trans hr))
  have K6 := KA.keep hacc (fun h => h)
  have L6 := LA.keep hacc (fun h => h)
  have HF := HF.trans hacc
  clear KA LA CA k0 k1 k2 k3 m0 m1 m2 m3 hacc hr
  go_wp2_with fail
  rw [rounds_succ]
  have k0 := K6.cell 0 (v := .int .i64 s) rfl
  have k1 := K6.cell 1 (v := .int .i64 a) rfl
  have k2 := K6.cell 2 (v := .int .i64 b) rfl
  have k3 := K6.cell 3 (v := .int .i64 q) rfl
  have l0 := L6.cell 0 (v := .int .i64 t) rfl
  have l1 := L6.cell 1 (v := .int .i64 c) rfl
  have l2 := L6.cell 2 (v := .int .i64 d) rfl
  have l3 := L6.cell 3 (v := .int .i64 r) rfl
  have kz := K6.lt
  have lz := L6.lt
  go_wp2_with fail
  clear k0 k1 k2 k3 l0 l1 l2 l3 kz lz
  have KA := K6.alloc (.cells #[.int .i64 s, .int .i64 c, .int .i64 b, .int .i64 r] 25)
  have LA := L6.alloc (.cells #[.int .i64 s, .int .i64 c, .int .i64 b, .int .i64 r] 25)
  have CA := Blk.new w1 #[.int .i64 s, .int .i64 c, .int .i64 b, .int .i64 r] 25
  have HF := HF.alloc (.cells #[.int .i64 s, .int .i64 c, .int .i64 b, .int .i64 r] 25)
  clear K6 L6
  generalize hV : w1.alloc (.cells #[.int .i64 s, .int .i64 c, .int .i64 b, .int .i64 r] 25) = V at *
  clear hV
  generalize w1.heap.size = n at *
  have k0 := KA.cell 0 (v := .int .i64 s) rfl
  have k1 := KA.cell 1 (v := .int .i64 a) rfl
  have k2 := KA.cell 2 (v := .int .i64 b) rfl
  have k3 := KA.cell 3 (v := .int .i64 q) rfl
  have m0 := CA.cell 0 (v := .int .i64 s) rfl
  have m1 := CA.cell 1 (v := .int .i64 c) rfl
  have m2 := CA.cell 2 (v := .int .i64 b) rfl
  have m3 := CA.cell 3 (v := .int .i64 r) rfl
  have hacc : Fr (fun _ => False) V V.drew := (Fr.refl _ V).drew
  go_region_held3 (fun w' => w'.cell? ⟨p, 0, none⟩ = some (.int .i64 s) ∧ w'.cell? ⟨p, 1, none⟩ = some (.int .i64 a) ∧ w'.cell? ⟨p, 2, none⟩ = some (.int .i64 b) ∧ w'.cell? ⟨p, 3, none⟩ = some (.int .i64 q) ∧ w'.cell? ⟨n, 0, none⟩ = some (.int .i64 s) ∧ w'.cell? ⟨n, 1, none⟩ = some (.int .i64 c) ∧ w'.cell? ⟨n, 2, none⟩ = some (.int .i64 b) ∧ w'.cell? ⟨n, 3, none⟩ = some (.int .i64 r)) (exact ⟨cell_fr hacc k0, cell_fr hacc k1, cell_fr hacc k2, cell_fr hacc k3, cell_fr hacc m0, cell_fr hacc m1, cell_fr hacc m2, cell_fr hacc m3⟩)
    (first
      | (go_at_call 13; refine (rings_any _ _ _ _ _).mono ?_; rintro e w1 ⟨rfl, hr⟩; have hacc := hacc.trans hr)
      | (go_at_call 14; refine (rrings_any _ _ _ _ _).mono ?_; rintro e w1 ⟨rfl, hr⟩; have hacc := hacc.trans hr)
      | (go_at_call 15; refine (keys_any _ _ _ _ _ _ _ _ _).mono ?_; rintro e w1 ⟨rfl, hr⟩; have hacc := hacc.trans hr)
      | (go_at_call 16; refine (rkeys_any _ _ _ _ _ _ _ _ _).mono ?_; rintro e w1 ⟨rfl, hr⟩; have hacc := hacc.trans hr))
  have K7 := KA.keep hacc (fun h => h)
  have L7 := LA.keep hacc (fun h => h)
  have HF := HF.trans hacc
  clear KA LA CA k0 k1 k2 k3 m0 m1 m2 m3 hacc hr
  go_wp2_with fail
  rw [rounds_succ]
  have k0 := K7.cell 0 (v := .int .i64 s) rfl
  have k1 := K7.cell 1 (v := .int .i64 a) rfl
  have k2 := K7.cell 2 (v := .int .i64 b) rfl
  have k3 := K7.cell 3 (v := .int .i64 q) rfl
  have l0 := L7.cell 0 (v := .int .i64 t) rfl
  have l1 := L7.cell 1 (v := .int .i64 c) rfl
  have l2 := L7.cell 2 (v := .int .i64 d) rfl
  have l3 := L7.cell 3 (v := .int .i64 r) rfl
  have kz := K7.lt
  have lz := L7.lt
  go_wp2_with fail
  clear k0 k1 k2 k3 l0 l1 l2 l3 kz lz
  have KA := K7.alloc (.cells #[.int .i64 t, .int .i64 a, .int .i64 b, .int .i64 r] 25)
  have LA := L7.alloc (.cells #[.int .i64 t, .int .i64 a, .int .i64 b, .int .i64 r] 25)
  have CA := Blk.new w1 #[.int .i64 t, .int .i64 a, .int .i64 b, .int .i64 r] 25
  have HF := HF.alloc (.cells #[.int .i64 t, .int .i64 a, .int .i64 b, .int .i64 r] 25)
  clear K7 L7
  generalize hV : w1.alloc (.cells #[.int .i64 t, .int .i64 a, .int .i64 b, .int .i64 r] 25) = V at *
  clear hV
  generalize w1.heap.size = n at *
  have k0 := KA.cell 0 (v := .int .i64 s) rfl
  have k1 := KA.cell 1 (v := .int .i64 a) rfl
  have k2 := KA.cell 2 (v := .int .i64 b) rfl
  have k3 := KA.cell 3 (v := .int .i64 q) rfl
  have m0 := CA.cell 0 (v := .int .i64 t) rfl
  have m1 := CA.cell 1 (v := .int .i64 a) rfl
  have m2 := CA.cell 2 (v := .int .i64 b) rfl
  have m3 := CA.cell 3 (v := .int .i64 r) rfl
  have hacc : Fr (fun _ => False) V V.drew := (Fr.refl _ V).drew
  go_region_held3 (fun w' => w'.cell? ⟨p, 0, none⟩ = some (.int .i64 s) ∧ w'.cell? ⟨p, 1, none⟩ = some (.int .i64 a) ∧ w'.cell? ⟨p, 2, none⟩ = some (.int .i64 b) ∧ w'.cell? ⟨p, 3, none⟩ = some (.int .i64 q) ∧ w'.cell? ⟨n, 0, none⟩ = some (.int .i64 t) ∧ w'.cell? ⟨n, 1, none⟩ = some (.int .i64 a) ∧ w'.cell? ⟨n, 2, none⟩ = some (.int .i64 b) ∧ w'.cell? ⟨n, 3, none⟩ = some (.int .i64 r)) (exact ⟨cell_fr hacc k0, cell_fr hacc k1, cell_fr hacc k2, cell_fr hacc k3, cell_fr hacc m0, cell_fr hacc m1, cell_fr hacc m2, cell_fr hacc m3⟩)
    (first
      | (go_at_call 13; refine (rings_any _ _ _ _ _).mono ?_; rintro e w1 ⟨rfl, hr⟩; have hacc := hacc.trans hr)
      | (go_at_call 14; refine (rrings_any _ _ _ _ _).mono ?_; rintro e w1 ⟨rfl, hr⟩; have hacc := hacc.trans hr)
      | (go_at_call 15; refine (keys_any _ _ _ _ _ _ _ _ _).mono ?_; rintro e w1 ⟨rfl, hr⟩; have hacc := hacc.trans hr)
      | (go_at_call 16; refine (rkeys_any _ _ _ _ _ _ _ _ _).mono ?_; rintro e w1 ⟨rfl, hr⟩; have hacc := hacc.trans hr))
  have K8 := KA.keep hacc (fun h => h)
  have L8 := LA.keep hacc (fun h => h)
  have HF := HF.trans hacc
  clear KA LA CA k0 k1 k2 k3 m0 m1 m2 m3 hacc hr
  go_wp2_with fail
  rw [rounds_succ]
  have k0 := K8.cell 0 (v := .int .i64 s) rfl
  have k1 := K8.cell 1 (v := .int .i64 a) rfl
  have k2 := K8.cell 2 (v := .int .i64 b) rfl
  have k3 := K8.cell 3 (v := .int .i64 q) rfl
  have l0 := L8.cell 0 (v := .int .i64 t) rfl
  have l1 := L8.cell 1 (v := .int .i64 c) rfl
  have l2 := L8.cell 2 (v := .int .i64 d) rfl
  have l3 := L8.cell 3 (v := .int .i64 r) rfl
  have kz := K8.lt
  have lz := L8.lt
  go_wp2_with fail
  clear k0 k1 k2 k3 l0 l1 l2 l3 kz lz
  have KA := K8.alloc (.cells #[.int .i64 s, .int .i64 a, .int .i64 b, .int .i64 r] 25)
  have LA := L8.alloc (.cells #[.int .i64 s, .int .i64 a, .int .i64 b, .int .i64 r] 25)
  have CA := Blk.new w1 #[.int .i64 s, .int .i64 a, .int .i64 b, .int .i64 r] 25
  have HF := HF.alloc (.cells #[.int .i64 s, .int .i64 a, .int .i64 b, .int .i64 r] 25)
  clear K8 L8
  generalize hV : w1.alloc (.cells #[.int .i64 s, .int .i64 a, .int .i64 b, .int .i64 r] 25) = V at *
  clear hV
  generalize w1.heap.size = n at *
  have k0 := KA.cell 0 (v := .int .i64 s) rfl
  have k1 := KA.cell 1 (v := .int .i64 a) rfl
  have k2 := KA.cell 2 (v := .int .i64 b) rfl
  have k3 := KA.cell 3 (v := .int .i64 q) rfl
  have m0 := CA.cell 0 (v := .int .i64 s) rfl
  have m1 := CA.cell 1 (v := .int .i64 a) rfl
  have m2 := CA.cell 2 (v := .int .i64 b) rfl
  have m3 := CA.cell 3 (v := .int .i64 r) rfl
  have hacc : Fr (fun _ => False) V V.drew := (Fr.refl _ V).drew
  go_region_held3 (fun w' => w'.cell? ⟨p, 0, none⟩ = some (.int .i64 s) ∧ w'.cell? ⟨p, 1, none⟩ = some (.int .i64 a) ∧ w'.cell? ⟨p, 2, none⟩ = some (.int .i64 b) ∧ w'.cell? ⟨p, 3, none⟩ = some (.int .i64 q) ∧ w'.cell? ⟨n, 0, none⟩ = some (.int .i64 s) ∧ w'.cell? ⟨n, 1, none⟩ = some (.int .i64 a) ∧ w'.cell? ⟨n, 2, none⟩ = some (.int .i64 b) ∧ w'.cell? ⟨n, 3, none⟩ = some (.int .i64 r)) (exact ⟨cell_fr hacc k0, cell_fr hacc k1, cell_fr hacc k2, cell_fr hacc k3, cell_fr hacc m0, cell_fr hacc m1, cell_fr hacc m2, cell_fr hacc m3⟩)
    (first
      | (go_at_call 13; refine (rings_any _ _ _ _ _).mono ?_; rintro e w1 ⟨rfl, hr⟩; have hacc := hacc.trans hr)
      | (go_at_call 14; refine (rrings_any _ _ _ _ _).mono ?_; rintro e w1 ⟨rfl, hr⟩; have hacc := hacc.trans hr)
      | (go_at_call 15; refine (keys_any _ _ _ _ _ _ _ _ _).mono ?_; rintro e w1 ⟨rfl, hr⟩; have hacc := hacc.trans hr)
      | (go_at_call 16; refine (rkeys_any _ _ _ _ _ _ _ _ _).mono ?_; rintro e w1 ⟨rfl, hr⟩; have hacc := hacc.trans hr))
  have K9 := KA.keep hacc (fun h => h)
  have L9 := LA.keep hacc (fun h => h)
  have HF := HF.trans hacc
  clear KA LA CA k0 k1 k2 k3 m0 m1 m2 m3 hacc hr
  go_wp2_with fail
  rw [rounds_succ]
  go_wp2_with fail
  refine (works_any _).mono ?_
  rintro e w2 ⟨rfl, f2⟩
  go_wp2_with fail
  go_ret
  exact ⟨rfl, (HF.trans f2).below (Nat.le_refl _) (by simp)⟩
end Go.Proofs.Ytfhhcbacnlakiaa