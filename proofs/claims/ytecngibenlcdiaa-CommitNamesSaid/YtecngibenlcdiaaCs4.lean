/-
  THE WALK OF CommitSteps. Conditions: members that are an int, entries of at most 2^47 bytes.
-/
import Derived.Test.YtecngibenlcdiaaCs3
namespace Go.Proofs.Ytecngibenlcdiaa
open Go.RowKit Go.ChangeShapes Go.WideShapes Go.Deep

set_option linter.unusedSimpArgs false
/-- The commit that is answered. -/
def an (ok : Bool) (c : Cm) : Cm := if ok then c else ⟨0, 0, 0, 0, []⟩
def erV (ok : Bool) : Int := if ok then 0 else 2
theorem RowIs.is {w : World} {B : Nat} {u : Value} {L : List Ent} (h : RowIs w B u L) : IsEs w u L := IsEs.of_row h.1
theorem RowIs.keep0 {w w' : World} {B : Nat} {u : Value} {L : List Ent} (h : RowIs w B u L) (f : Fr (fun _ => False) w w') : RowIs w' B u L := ⟨row_keep h.1 f (fun _ _ h => h), h.2⟩
/-- What a call answers: a commit in memory of its own, and a number. -/
def AnsIs (A : Cm) (er : Int) (w : World) (e : Ending) (w' : World) : Prop := ∃ a n k, e = .returned (.tuple #[.agg #[.int .i64 A.s, .int .i64 A.r, .int .i64 A.m, .int .i64 A.h, .slice a n k], .int .i64 er]) ∧ Hid (n = A.L.length) ∧ RowIs w' w.heap.size (.slice a n k) A.L ∧ Fr (fun _ => False) w w'
theorem AnsIs.of {ok : Bool} {c : Cm} {w : World} {e : Ending} {w' : World} (h : AnsR ok c w e w') : AnsIs (an ok c) (erV ok) w e w' := by
  obtain ⟨v', rfl, h1, h2⟩ := h
  cases ok with
  | true =>
    have hr := h1 rfl
    obtain ⟨a, k, rfl, _⟩ := hr.is.len
    exact ⟨a, _, k, rfl, hid rfl, hr, h2⟩
  | false => exact ⟨none, 0, 0, rfl, hid rfl, ⟨World.ownsRow_nil _ _ _ _, fun k hk => by simp [footOf, Value.ownBlock] at hk⟩, h2⟩
/-- The block that a row's entries lie in. -/
def Sh (w : World) (a : Option Addr) (n k : Nat) : Prop := 0 < n → ∃ g cur, a = some ⟨g, 0, none⟩ ∧ Blk w g cur 28 ∧ cur.size = k * 6 ∧ n ≤ k
theorem RowIs.sh {w : World} {B : Nat} {ao : Option Addr} {N cap : Nat} {L : List Ent} (h : RowIs w B (.slice ao N cap) L) : Sh w ao N cap := by
  intro hn
  obtain ⟨h, ha⟩ := h
  rcases h.2 with ⟨e, h0⟩ | ⟨g, cap', cur, e, hg, hh, hc, hm, hs, ht⟩
  · injection e with _ e2 _; omega
  · injection e with e1 e2 e3
    subst e1; subst e2; subst e3
    exact ⟨g, cur, rfl, hh, hs, hc⟩
theorem RowIs.ne {w : World} {B : Nat} {u : Value} {L : List Ent} (h : RowIs w B u L) {g : Nat} {cs : Array Value} (b : Blk w g cs 26) : ¬ g ∈ footOf u := fun hk => row_nev h.1 b _ hk rfl

set_option maxRecDepth 100000 in
set_option maxHeartbeats 4000000 in
theorem steps_any (c : Cm) (v : Value) (x : Ent) (nd : Int) (w : World) (hm : Big c.m) (hv : IsEs w v c.L) (hl : c.L.length * 48 ≤ 140737488351232) : Calls Try.prog 3 #[cv c v, x.agg, .int .i64 nd] w fun e w' => e = .returned (.bool true) ∧ Fr (fun _ => False) w w' := by
  obtain ⟨ao, cap, rfl, hl1, hl2⟩ := hv.len
  have HV := hid hv
  have HCP := hid (fun W (f : Fr (fun _ => False) w W) => lcopied_any c (.slice ao c.L.length cap) W (hv.keep0 f) hl)
  have HN1 := hid (fun W => (new_any c.s c.r c.m x W).mono (fun e w' q => AnsIs.of (ok := okC (newC c.s c.r c.m x)) (c := newC c.s c.r c.m x) (by obtain ⟨v', h1, h2, h3⟩ := q; exact ⟨v', h1, fun _ => h2, h3⟩)))
  have HN2 := hid (fun W => (dnew_any c.s c.r c.m x W hm).mono (fun e w' q => AnsIs.of (ok := okC (newC c.s c.r c.m x)) (c := newC c.s c.r c.m x) q))
  have HA1 := hid (fun a n k W (hu : IsEs W (.slice a n k) c.L) => (add_any c (.slice a n k) x W hu).mono (fun e w' q => AnsIs.of (ok := addOk c x) (c := more c [x]) q))
  have HA2 := hid (fun a n k W (hu : IsEs W (.slice a n k) c.L) => (dadd_any c (.slice a n k) x W hm hu).mono (fun e w' q => AnsIs.of (ok := addOk c x) (c := more c [x]) q))
  have HP1 := hid (fun a n k W (hu : IsEs W (.slice a n k) c.L) => (pass_any c (.slice a n k) W hu).mono (fun e w' q => AnsIs.of (ok := passOk c) (c := ⟨c.s, c.r, c.m, c.h + 1, c.L⟩) (by rw [more_nil] at q; exact q)))
  have HP2 := hid (fun a n k W (hu : IsEs W (.slice a n k) c.L) => (dpass_any c (.slice a n k) W hm hu).mono (fun e w' q => AnsIs.of (ok := passOk c) (c := ⟨c.s, c.r, c.m, c.h + 1, c.L⟩) q))
  have HC1 := hid (fun a n k W (hu : IsEs W (.slice a n k) c.L) => ccheck_any c (.slice a n k) W hu)
  have HC2 := hid (fun a n k W (hu : IsEs W (.slice a n k) c.L) => dcheck_any c (.slice a n k) W hm hu)
  have HW1 := hid (fun a n k W (hu : IsEs W (.slice a n k) c.L) => visit_any c (.slice a n k) nd W hu)
  have HW2 := hid (fun a n k W (hu : IsEs W (.slice a n k) c.L) => dvisit_any c (.slice a n k) nd W hm hu)
  have HSC := hid (fun a n k a' n' k' W (h1 : IsEs W (.slice a n k) c.L) (h2 : IsEs W (.slice a' n' k') c.L) => samecm_eq c (.slice a n k) (.slice a' n' k') W h1 h2)
  generalize hA1 : an (okC (newC c.s c.r c.m x)) (newC c.s c.r c.m x) = A1 at *
  generalize hA2 : an (addOk c x) (more c [x]) = A2 at *
  generalize hA3 : an (passOk c) ⟨c.s, c.r, c.m, c.h + 1, c.L⟩ = A3 at *
  have HS1 := hid (fun a n k a' n' k' W (h1 : IsEs W (.slice a n k) A1.L) (h2 : IsEs W (.slice a' n' k') A1.L) => samecm_eq A1 (.slice a n k) (.slice a' n' k') W h1 h2)
  have HS2 := hid (fun a n k a' n' k' W (h1 : IsEs W (.slice a n k) A2.L) (h2 : IsEs W (.slice a' n' k') A2.L) => samecm_eq A2 (.slice a n k) (.slice a' n' k') W h1 h2)
  have HS3 := hid (fun a n k a' n' k' W (h1 : IsEs W (.slice a n k) A3.L) (h2 : IsEs W (.slice a' n' k') A3.L) => samecm_eq A3 (.slice a n k) (.slice a' n' k') W h1 h2)
  simp only [cv] at HCP HA1 HA2 HP1 HP2 HC1 HC2 HW1 HW2 HSC HS1 HS2 HS3
  simp only [Ent.agg] at HN1 HN2 HA1 HA2
  generalize (if okC c = true then (0 : Int) else 2) = ec at *
  generalize visV c nd = vn at *
  generalize erV (okC (newC c.s c.r c.m x)) = e1 at *
  generalize erV (addOk c x) = e2 at *
  generalize erV (passOk c) = e3 at *
  obtain ⟨N, hN⟩ : ∃ N, N = c.L.length := ⟨_, rfl⟩
  rw [← hN] at HV HCP
  have HN := hid hN
  show Calls Try.prog 3 #[.agg #[.int .i64 c.s, .int .i64 c.r, .int .i64 c.m, .int .i64 c.h, .slice ao c.L.length cap], .agg #[.int .i64 x.n, .int .i64 x.s, .int .i64 x.r, .int .i64 x.a, .int .i64 x.h, .int .i64 x.c], .int .i64 nd] w _
  rw [← hN]
  clear hl hl1 hl2 hv hm hN hA1 hA2 hA3
  obtain ⟨B1, B2, f2⟩ := blk2 w #[.int .i64 c.s, .int .i64 c.r, .int .i64 c.m, .int .i64 c.h, .slice ao N cap] #[.int .i64 x.n, .int .i64 x.s, .int .i64 x.r, .int .i64 x.a, .int .i64 x.h, .int .i64 x.c] 26 28
  go_enter Try.func3, Try.ntmps3
  go_upto_region 1 with (fail)
  generalize (w.alloc (.cells #[.int .i64 c.s, .int .i64 c.r, .int .i64 c.m, .int .i64 c.h, .slice ao N cap] 26)).alloc (.cells #[.int .i64 x.n, .int .i64 x.s, .int .i64 x.r, .int .i64 x.a, .int .i64 x.h, .int .i64 x.c] 28) = w1 at *
  generalize w.heap.size + 1 = q at *
  generalize w.heap.size = p at *
  have HF1 := hid f2
  clear f2
  have HP := B1
  go_wp2_with (first | (refine wpList_load_part rfl 26 _ rfl aggCm p 0 rfl HP #[.int .i64 c.s, .int .i64 c.r, .int .i64 c.m, .int .i64 c.h, .slice ao N cap] rfl rfl ?_))
  with_reducible refine (HCP.out _ HF1.out).mono ?_
  rintro e w2 ⟨v', rfl, hr2, ha2, f2⟩
  obtain ⟨bo, bc, rfl⟩ := rowN_shape hr2
  go_wp2_with (refine wpList_new rfl 26 rfl #[.int .i64 0, .int .i64 0, .int .i64 0, .int .i64 0, .slice none 0 0] zeroCm ?_)
  intro i w3 hi B3 f3 z3
  have hiw : w1.heap.size ≤ i := by have := f2.size; omega
  clear hi
  go_wp2_with (refine wpList_store_part rfl 26 _ _ rfl aggCm i 0 rfl B3 (.agg #[.int .i64 c.s, .int .i64 c.r, .int .i64 c.m, .int .i64 c.h, .slice bo N bc]) rfl rfl (one_cc c.s c.r c.m c.h bo N bc) (Nat.le_refl 5) #[.int .i64 c.s, .int .i64 c.r, .int .i64 c.m, .int .i64 c.h, .slice bo N bc] rfl ?_)
  intro v0 C0 f4 z4
  have F04 : Fr (fun _ => False) w1 v0 := (f2.trans f3).into f4 hiw
  have HF04 := hid (HF1.out.trans F04)
  have hr4 : v0.ownsRow 0 28 6 (.slice bo N bc) c.L.length (ents c.L) := by
    have h3 := row_keep hr2 f3 (fun _ _ h => h)
    rw [HN.out] at h3 ⊢
    exact row_keep h3 f4 (row_nev h3 B3)
  have HE0 := hid (fun W (f : Fr (fun _ => False) v0 W) => And.intro (B1.keep (F04.trans f) (fun h => h)) (And.intro (B2.keep (F04.trans f) (fun h => h)) (And.intro (C0.keep f (fun h => h)) (And.intro (IsEs.of_row (row_keep hr4 f (fun _ _ h => h))) (HV.out.keep0 (HF04.out.trans f))))))
  have HF0 := hid (Fr.refl (fun _ => False) v0)
  clear B1 B2 B3 f2 f3 f4 z3 z4 hiw F04 hr2 ha2 hr4 C0 HP HV HCP
  obtain ⟨HP, HQ, HI, hia, hiv⟩ := HE0.out v0 HF0.out
  have p0 := HP.cell 0 rfl
  have p1 := HP.cell 1 rfl
  have p2 := HP.cell 2 rfl
  go_wp2_with (first | (refine wpList_load_part rfl 26 _ rfl aggCm p 0 rfl HP #[.int .i64 c.s, .int .i64 c.r, .int .i64 c.m, .int .i64 c.h, .slice ao N cap] rfl rfl ?_) | (refine wpList_load_part rfl 26 _ rfl aggCm i 0 rfl HI #[.int .i64 c.s, .int .i64 c.r, .int .i64 c.m, .int .i64 c.h, .slice bo N bc] rfl rfl ?_) | (refine wpList_load_part rfl 28 _ rfl aggEnt q 0 rfl HQ #[.int .i64 x.n, .int .i64 x.s, .int .i64 x.r, .int .i64 x.a, .int .i64 x.h, .int .i64 x.c] rfl rfl ?_))
  with_reducible refine (HN1.out _).mono ?_
  rintro e v1a ⟨a1, n1, k1, rfl, hn1, hr1, f1⟩
  clear HP HQ HI hia hiv p0 p1 p2
  go_wp2_with (refine wpList_new rfl 26 rfl #[.int .i64 0, .int .i64 0, .int .i64 0, .int .i64 0, .slice none 0 0] zeroCm ?_)
  intro b1 v1b hb1 B1 g1 z1
  have hbb1 : v0.heap.size ≤ b1 := by have := f1.size; omega
  clear hb1
  go_wp2_with (refine wpList_store_part rfl 26 _ _ rfl aggCm b1 0 rfl B1 (.agg #[.int .i64 A1.s, .int .i64 A1.r, .int .i64 A1.m, .int .i64 A1.h, .slice a1 n1 k1]) rfl rfl (one_cc A1.s A1.r A1.m A1.h a1 n1 k1) (Nat.le_refl 5) #[.int .i64 A1.s, .int .i64 A1.r, .int .i64 A1.m, .int .i64 A1.h, .slice a1 n1 k1] rfl ?_)
  intro v1 C1 q1 y1
  have S1 := hid ((f1.trans g1).into q1 hbb1)
  have R1 := hid ((show RowIs v1 v0.heap.size (.slice a1 n1 k1) A1.L from ⟨row_keep (row_keep hr1.1 g1 (fun _ _ h => h)) q1 (row_nev (row_keep hr1.1 g1 (fun _ _ h => h)) B1), hr1.2⟩))
  have HF1 := hid (HF0.out.trans S1.out)
  have HD1 := hid C1
  clear B1 g1 z1 C1 q1 y1 hbb1 hr1 f1
  obtain ⟨HP, HQ, HI, hia, hiv⟩ := HE0.out v1 HF1.out
  have p0 := HP.cell 0 rfl
  have p1 := HP.cell 1 rfl
  have p2 := HP.cell 2 rfl
  go_wp2_with (first | (refine wpList_load_part rfl 26 _ rfl aggCm p 0 rfl HP #[.int .i64 c.s, .int .i64 c.r, .int .i64 c.m, .int .i64 c.h, .slice ao N cap] rfl rfl ?_) | (refine wpList_load_part rfl 26 _ rfl aggCm i 0 rfl HI #[.int .i64 c.s, .int .i64 c.r, .int .i64 c.m, .int .i64 c.h, .slice bo N bc] rfl rfl ?_) | (refine wpList_load_part rfl 28 _ rfl aggEnt q 0 rfl HQ #[.int .i64 x.n, .int .i64 x.s, .int .i64 x.r, .int .i64 x.a, .int .i64 x.h, .int .i64 x.c] rfl rfl ?_))
  with_reducible refine (HN2.out _).mono ?_
  rintro e v2a ⟨a2, n2, k2, rfl, hn2, hr2, f2⟩
  clear HP HQ HI hia hiv p0 p1 p2
  go_wp2_with (refine wpList_new rfl 26 rfl #[.int .i64 0, .int .i64 0, .int .i64 0, .int .i64 0, .slice none 0 0] zeroCm ?_)
  intro b2 v2b hb2 B2 g2 z2
  have hbb2 : v1.heap.size ≤ b2 := by have := f2.size; omega
  clear hb2
  go_wp2_with (refine wpList_store_part rfl 26 _ _ rfl aggCm b2 0 rfl B2 (.agg #[.int .i64 A1.s, .int .i64 A1.r, .int .i64 A1.m, .int .i64 A1.h, .slice a2 n2 k2]) rfl rfl (one_cc A1.s A1.r A1.m A1.h a2 n2 k2) (Nat.le_refl 5) #[.int .i64 A1.s, .int .i64 A1.r, .int .i64 A1.m, .int .i64 A1.h, .slice a2 n2 k2] rfl ?_)
  intro v2 C2 q2 y2
  have S2 := hid ((f2.trans g2).into q2 hbb2)
  have R2 := hid ((show RowIs v2 v1.heap.size (.slice a2 n2 k2) A1.L from ⟨row_keep (row_keep hr2.1 g2 (fun _ _ h => h)) q2 (row_nev (row_keep hr2.1 g2 (fun _ _ h => h)) B2), hr2.2⟩))
  have HF2 := hid (HF1.out.trans S2.out)
  have HD2 := hid C2
  clear B2 g2 z2 C2 q2 y2 hbb2 hr2 f2
  obtain ⟨HP, HQ, HI, hia, hiv⟩ := HE0.out v2 HF2.out
  go_wp2_with (first | (refine wpList_load_part rfl 26 _ rfl aggCm p 0 rfl HP #[.int .i64 c.s, .int .i64 c.r, .int .i64 c.m, .int .i64 c.h, .slice ao N cap] rfl rfl ?_) | (refine wpList_load_part rfl 26 _ rfl aggCm i 0 rfl HI #[.int .i64 c.s, .int .i64 c.r, .int .i64 c.m, .int .i64 c.h, .slice bo N bc] rfl rfl ?_) | (refine wpList_load_part rfl 28 _ rfl aggEnt q 0 rfl HQ #[.int .i64 x.n, .int .i64 x.s, .int .i64 x.r, .int .i64 x.a, .int .i64 x.h, .int .i64 x.c] rfl rfl ?_))
  with_reducible refine (HA1.out _ _ _ _ hia).mono ?_
  rintro e v3a ⟨a3, n3, k3, rfl, hn3, hr3, f3⟩
  clear HP HQ HI hia hiv
  go_wp2_with (refine wpList_new rfl 26 rfl #[.int .i64 0, .int .i64 0, .int .i64 0, .int .i64 0, .slice none 0 0] zeroCm ?_)
  intro b3 v3b hb3 B3 g3 z3
  have hbb3 : v2.heap.size ≤ b3 := by have := f3.size; omega
  clear hb3
  go_wp2_with (refine wpList_store_part rfl 26 _ _ rfl aggCm b3 0 rfl B3 (.agg #[.int .i64 A2.s, .int .i64 A2.r, .int .i64 A2.m, .int .i64 A2.h, .slice a3 n3 k3]) rfl rfl (one_cc A2.s A2.r A2.m A2.h a3 n3 k3) (Nat.le_refl 5) #[.int .i64 A2.s, .int .i64 A2.r, .int .i64 A2.m, .int .i64 A2.h, .slice a3 n3 k3] rfl ?_)
  intro v3 C3 q3 y3
  have S3 := hid ((f3.trans g3).into q3 hbb3)
  have R3 := hid ((show RowIs v3 v2.heap.size (.slice a3 n3 k3) A2.L from ⟨row_keep (row_keep hr3.1 g3 (fun _ _ h => h)) q3 (row_nev (row_keep hr3.1 g3 (fun _ _ h => h)) B3), hr3.2⟩))
  have HF3 := hid (HF2.out.trans S3.out)
  have HD3 := hid C3
  clear B3 g3 z3 C3 q3 y3 hbb3 hr3 f3
  as_aux_lemma =>
    obtain ⟨HP, HQ, HI, hia, hiv⟩ := HE0.out v3 HF3.out
    go_wp2_with (first | (refine wpList_load_part rfl 26 _ rfl aggCm p 0 rfl HP #[.int .i64 c.s, .int .i64 c.r, .int .i64 c.m, .int .i64 c.h, .slice ao N cap] rfl rfl ?_) | (refine wpList_load_part rfl 26 _ rfl aggCm i 0 rfl HI #[.int .i64 c.s, .int .i64 c.r, .int .i64 c.m, .int .i64 c.h, .slice bo N bc] rfl rfl ?_) | (refine wpList_load_part rfl 28 _ rfl aggEnt q 0 rfl HQ #[.int .i64 x.n, .int .i64 x.s, .int .i64 x.r, .int .i64 x.a, .int .i64 x.h, .int .i64 x.c] rfl rfl ?_))
    with_reducible refine (HA2.out _ _ _ _ hiv).mono ?_
    rintro e v4a ⟨a4, n4, k4, rfl, hn4, hr4, f4⟩
    clear HP HQ HI hia hiv
    go_wp2_with (refine wpList_new rfl 26 rfl #[.int .i64 0, .int .i64 0, .int .i64 0, .int .i64 0, .slice none 0 0] zeroCm ?_)
    intro b4 v4b hb4 B4 g4 z4
    have hbb4 : v3.heap.size ≤ b4 := by have := f4.size; omega
    clear hb4
    go_wp2_with (refine wpList_store_part rfl 26 _ _ rfl aggCm b4 0 rfl B4 (.agg #[.int .i64 A2.s, .int .i64 A2.r, .int .i64 A2.m, .int .i64 A2.h, .slice a4 n4 k4]) rfl rfl (one_cc A2.s A2.r A2.m A2.h a4 n4 k4) (Nat.le_refl 5) #[.int .i64 A2.s, .int .i64 A2.r, .int .i64 A2.m, .int .i64 A2.h, .slice a4 n4 k4] rfl ?_)
    intro v4 C4 q4 y4
    have S4 := hid ((f4.trans g4).into q4 hbb4)
    have R4 := hid ((show RowIs v4 v3.heap.size (.slice a4 n4 k4) A2.L from ⟨row_keep (row_keep hr4.1 g4 (fun _ _ h => h)) q4 (row_nev (row_keep hr4.1 g4 (fun _ _ h => h)) B4), hr4.2⟩))
    have HF4 := hid (HF3.out.trans S4.out)
    have HD4 := hid C4
    clear B4 g4 z4 C4 q4 y4 hbb4 hr4 f4
    obtain ⟨HP, HQ, HI, hia, hiv⟩ := HE0.out v4 HF4.out
    go_wp2_with (first | (refine wpList_load_part rfl 26 _ rfl aggCm p 0 rfl HP #[.int .i64 c.s, .int .i64 c.r, .int .i64 c.m, .int .i64 c.h, .slice ao N cap] rfl rfl ?_) | (refine wpList_load_part rfl 26 _ rfl aggCm i 0 rfl HI #[.int .i64 c.s, .int .i64 c.r, .int .i64 c.m, .int .i64 c.h, .slice bo N bc] rfl rfl ?_) | (refine wpList_load_part rfl 28 _ rfl aggEnt q 0 rfl HQ #[.int .i64 x.n, .int .i64 x.s, .int .i64 x.r, .int .i64 x.a, .int .i64 x.h, .int .i64 x.c] rfl rfl ?_))
    with_reducible refine (HP1.out _ _ _ _ hia).mono ?_
    rintro e v5a ⟨a5, n5, k5, rfl, hn5, hr5, f5⟩
    clear HP HQ HI hia hiv
    go_wp2_with (refine wpList_new rfl 26 rfl #[.int .i64 0, .int .i64 0, .int .i64 0, .int .i64 0, .slice none 0 0] zeroCm ?_)
    intro b5 v5b hb5 B5 g5 z5
    have hbb5 : v4.heap.size ≤ b5 := by have := f5.size; omega
    clear hb5
    go_wp2_with (refine wpList_store_part rfl 26 _ _ rfl aggCm b5 0 rfl B5 (.agg #[.int .i64 A3.s, .int .i64 A3.r, .int .i64 A3.m, .int .i64 A3.h, .slice a5 n5 k5]) rfl rfl (one_cc A3.s A3.r A3.m A3.h a5 n5 k5) (Nat.le_refl 5) #[.int .i64 A3.s, .int .i64 A3.r, .int .i64 A3.m, .int .i64 A3.h, .slice a5 n5 k5] rfl ?_)
    intro v5 C5 q5 y5
    have S5 := hid ((f5.trans g5).into q5 hbb5)
    have R5 := hid ((show RowIs v5 v4.heap.size (.slice a5 n5 k5) A3.L from ⟨row_keep (row_keep hr5.1 g5 (fun _ _ h => h)) q5 (row_nev (row_keep hr5.1 g5 (fun _ _ h => h)) B5), hr5.2⟩))
    have HF5 := hid (HF4.out.trans S5.out)
    have HD5 := hid C5
    clear B5 g5 z5 C5 q5 y5 hbb5 hr5 f5
    obtain ⟨HP, HQ, HI, hia, hiv⟩ := HE0.out v5 HF5.out
    go_wp2_with (first | (refine wpList_load_part rfl 26 _ rfl aggCm p 0 rfl HP #[.int .i64 c.s, .int .i64 c.r, .int .i64 c.m, .int .i64 c.h, .slice ao N cap] rfl rfl ?_) | (refine wpList_load_part rfl 26 _ rfl aggCm i 0 rfl HI #[.int .i64 c.s, .int .i64 c.r, .int .i64 c.m, .int .i64 c.h, .slice bo N bc] rfl rfl ?_) | (refine wpList_load_part rfl 28 _ rfl aggEnt q 0 rfl HQ #[.int .i64 x.n, .int .i64 x.s, .int .i64 x.r, .int .i64 x.a, .int .i64 x.h, .int .i64 x.c] rfl rfl ?_))
    with_reducible refine (HP2.out _ _ _ _ hiv).mono ?_
    rintro e v6a ⟨a6, n6, k6, rfl, hn6, hr6, f6⟩
    clear HP HQ HI hia hiv
    go_wp2_with (refine wpList_new rfl 26 rfl #[.int .i64 0, .int .i64 0, .int .i64 0, .int .i64 0, .slice none 0 0] zeroCm ?_)
    intro b6 v6b hb6 B6 g6 z6
    have hbb6 : v5.heap.size ≤ b6 := by have := f6.size; omega
    clear hb6
    go_wp2_with (refine wpList_store_part rfl 26 _ _ rfl aggCm b6 0 rfl B6 (.agg #[.int .i64 A3.s, .int .i64 A3.r, .int .i64 A3.m, .int .i64 A3.h, .slice a6 n6 k6]) rfl rfl (one_cc A3.s A3.r A3.m A3.h a6 n6 k6) (Nat.le_refl 5) #[.int .i64 A3.s, .int .i64 A3.r, .int .i64 A3.m, .int .i64 A3.h, .slice a6 n6 k6] rfl ?_)
    intro v6 C6 q6 y6
    have S6 := hid ((f6.trans g6).into q6 hbb6)
    have R6 := hid ((show RowIs v6 v5.heap.size (.slice a6 n6 k6) A3.L from ⟨row_keep (row_keep hr6.1 g6 (fun _ _ h => h)) q6 (row_nev (row_keep hr6.1 g6 (fun _ _ h => h)) B6), hr6.2⟩))
    have HF6 := hid (HF5.out.trans S6.out)
    have HD6 := hid C6
    clear B6 g6 z6 C6 q6 y6 hbb6 hr6 f6
    have K6 := hid (fun W (f : Fr (fun _ => False) v6 W) => And.intro (HD6.out.keep ((Fr.refl _ _).trans f) (fun h => h)) (R6.out.keep0 ((Fr.refl _ _).trans f)))
    have K5 := hid (fun W (f : Fr (fun _ => False) v6 W) => And.intro (HD5.out.keep (S6.out.trans f) (fun h => h)) (R5.out.keep0 (S6.out.trans f)))
    have K4 := hid (fun W (f : Fr (fun _ => False) v6 W) => And.intro (HD4.out.keep ((S5.out.trans S6.out).trans f) (fun h => h)) (R4.out.keep0 ((S5.out.trans S6.out).trans f)))
    have K3 := hid (fun W (f : Fr (fun _ => False) v6 W) => And.intro (HD3.out.keep (((S4.out.trans S5.out).trans S6.out).trans f) (fun h => h)) (R3.out.keep0 (((S4.out.trans S5.out).trans S6.out).trans f)))
    have K2 := hid (fun W (f : Fr (fun _ => False) v6 W) => And.intro (HD2.out.keep ((((S3.out.trans S4.out).trans S5.out).trans S6.out).trans f) (fun h => h)) (R2.out.keep0 ((((S3.out.trans S4.out).trans S5.out).trans S6.out).trans f)))
    have K1 := hid (fun W (f : Fr (fun _ => False) v6 W) => And.intro (HD1.out.keep (((((S2.out.trans S3.out).trans S4.out).trans S5.out).trans S6.out).trans f) (fun h => h)) (R1.out.keep0 (((((S2.out.trans S3.out).trans S4.out).trans S5.out).trans S6.out).trans f)))
    have D35 : Hid (∀ k, k ∈ footOf (.slice a5 n5 k5) → ¬ k ∈ footOf (.slice a3 n3 k3)) := hid (fun k h5 h3 => by
      have u1 := R5.out.2 k h5
      have u2 := row_live (row_keep R3.out.1 S4.out (fun _ _ h => h)) k h3
      omega)
    have U3 : Hid (Above v0.heap.size (footOf (.slice a3 n3 k3))) := hid (fun k hk => Nat.le_trans HF2.out.size (R3.out.2 k hk))
    have U5 : Hid (Above v0.heap.size (footOf (.slice a5 n5 k5))) := hid (fun k hk => Nat.le_trans HF4.out.size (R5.out.2 k hk))
    have NB3 : Hid (n3 ≤ 9223372036854775807) := hid (by have h1 := hn3.out; obtain ⟨a, c, _, h2, h3⟩ := R3.out.is.len; unfold maxLen at h3; omega)
    have NB5 : Hid (n5 ≤ 9223372036854775807) := hid (by have h1 := hn5.out; obtain ⟨a, c, _, h2, h3⟩ := R5.out.is.len; unfold maxLen at h3; omega)
    as_aux_lemma =>
      have hb1 : (e1 != e1) = false := by simp
      have hb2 : (e2 != e2) = false := by simp
      have hb3 : (e3 != e3) = false := by simp
      obtain ⟨G1, gr1⟩ := K1.out _ (Fr.refl _ _)
      obtain ⟨G2, gr2⟩ := K2.out _ (Fr.refl _ _)
      go_wp2_with (first | (refine wpList_load_part_if rfl 26 _ rfl aggCm b1 0 rfl G1 #[.int .i64 A1.s, .int .i64 A1.r, .int .i64 A1.m, .int .i64 A1.h, .slice a1 n1 k1] rfl rfl ?_) | (refine wpList_load_part_if rfl 26 _ rfl aggCm b2 0 rfl G2 #[.int .i64 A1.s, .int .i64 A1.r, .int .i64 A1.m, .int .i64 A1.h, .slice a2 n2 k2] rfl rfl ?_))
      with_reducible refine (HS1.out _ _ _ _ _ _ _ gr1.is gr2.is).mono ?_
      rintro e v7 ⟨rfl, fx⟩
      have T7 := hid ((Fr.refl _ _).trans fx)
      clear fx G1 gr1 G2 gr2
      obtain ⟨G3, gr3⟩ := K3.out _ T7.out
      obtain ⟨G4, gr4⟩ := K4.out _ T7.out
      go_wp2_with (first | (refine wpList_load_part_if rfl 26 _ rfl aggCm b3 0 rfl G3 #[.int .i64 A2.s, .int .i64 A2.r, .int .i64 A2.m, .int .i64 A2.h, .slice a3 n3 k3] rfl rfl ?_) | (refine wpList_load_part_if rfl 26 _ rfl aggCm b4 0 rfl G4 #[.int .i64 A2.s, .int .i64 A2.r, .int .i64 A2.m, .int .i64 A2.h, .slice a4 n4 k4] rfl rfl ?_))
      with_reducible refine (HS2.out _ _ _ _ _ _ _ gr3.is gr4.is).mono ?_
      rintro e v8 ⟨rfl, fx⟩
      have T8 := hid (T7.out.trans fx)
      clear fx G3 gr3 G4 gr4
      obtain ⟨G5, gr5⟩ := K5.out _ T8.out
      obtain ⟨G6, gr6⟩ := K6.out _ T8.out
      go_wp2_with (first | (refine wpList_load_part_if rfl 26 _ rfl aggCm b5 0 rfl G5 #[.int .i64 A3.s, .int .i64 A3.r, .int .i64 A3.m, .int .i64 A3.h, .slice a5 n5 k5] rfl rfl ?_) | (refine wpList_load_part_if rfl 26 _ rfl aggCm b6 0 rfl G6 #[.int .i64 A3.s, .int .i64 A3.r, .int .i64 A3.m, .int .i64 A3.h, .slice a6 n6 k6] rfl rfl ?_))
      with_reducible refine (HS3.out _ _ _ _ _ _ _ gr5.is gr6.is).mono ?_
      rintro e v9 ⟨rfl, fx⟩
      have T9 := hid (T8.out.trans fx)
      clear fx G5 gr5 G6 gr6
      have HF9 := hid (HF6.out.trans T9.out)
      go_wp2_with fail
      have PS : Hid (∀ W, Fr (fun _ => False) v9 W → W.cell? ⟨p, 0, none⟩ = some (.int .i64 c.s) ∧ W.cell? ⟨p, 1, none⟩ = some (.int .i64 c.r) ∧ W.cell? ⟨p, 2, none⟩ = some (.int .i64 c.m) ∧ W.cell? ⟨p, 3, none⟩ = some (.int .i64 c.h) ∧ W.cell? ⟨p, 4, none⟩ = some (.slice ao N cap) ∧ W.cell? ⟨i, 0, none⟩ = some (.int .i64 c.s) ∧ W.cell? ⟨i, 1, none⟩ = some (.int .i64 c.r) ∧ W.cell? ⟨i, 2, none⟩ = some (.int .i64 c.m) ∧ W.cell? ⟨i, 3, none⟩ = some (.int .i64 c.h) ∧ W.cell? ⟨i, 4, none⟩ = some (.slice bo N bc)) := hid (fun W f => by
        obtain ⟨h1, h2, h3, _, _⟩ := HE0.out W (HF9.out.trans f)
        exact ⟨h1.cell 0 rfl, h1.cell 1 rfl, h1.cell 2 rfl, h1.cell 3 rfl, h1.cell 4 rfl, h3.cell 0 rfl, h3.cell 1 rfl, h3.cell 2 rfl, h3.cell 3 rfl, h3.cell 4 rfl⟩)
      refine wp_region_held_drew (S := fun W => W.cell? ⟨p, 0, none⟩ = some (.int .i64 c.s) ∧ W.cell? ⟨p, 1, none⟩ = some (.int .i64 c.r) ∧ W.cell? ⟨p, 2, none⟩ = some (.int .i64 c.m) ∧ W.cell? ⟨p, 3, none⟩ = some (.int .i64 c.h) ∧ W.cell? ⟨p, 4, none⟩ = some (.slice ao N cap) ∧ W.cell? ⟨i, 0, none⟩ = some (.int .i64 c.s) ∧ W.cell? ⟨i, 1, none⟩ = some (.int .i64 c.r) ∧ W.cell? ⟨i, 2, none⟩ = some (.int .i64 c.m) ∧ W.cell? ⟨i, 3, none⟩ = some (.int .i64 c.h) ∧ W.cell? ⟨i, 4, none⟩ = some (.slice bo N bc)) (by kernel_rfl) (PS.out _ (Fr.refl _ _).drew) (fun hHeld => ?_)
      have hacc := (Fr.refl (fun _ => False) v9).drew
      refine wpAnyH_take (i := 0) (v := ?_) rfl (by kernel_rfl) (by kernel_rfl) (by kernel_rfl) (fun _ _ _ h => h) (Or.inl ⟨by rfl, ?_⟩) hHeld ?_
      rotate_left 1
      · (intro w hSw; (try dsimp only at hSw); go_simp <;> with_reducible rfl)
      try simp only [Act.put, List.setIfInBounds_toArray, List.set_cons_zero, List.set_cons_succ, List.getElem_toArray, List.getElem_cons_succ, List.getElem_cons_zero]
      refine wpAnyH_take (i := 2) (v := ?_) rfl (by kernel_rfl) (by kernel_rfl) (by kernel_rfl) (fun _ _ _ h => h) (Or.inl ⟨by rfl, ?_⟩) hHeld ?_
      rotate_left 1
      · (intro w hSw; (try dsimp only at hSw); go_simp <;> with_reducible rfl)
      try simp only [Act.put, List.setIfInBounds_toArray, List.set_cons_zero, List.set_cons_succ, List.getElem_toArray, List.getElem_cons_succ, List.getElem_cons_zero]
      refine wpAnyH_ready (rs := [1]) (by kernel_rfl) (by simp) ?_
      refine AllReadyH.cons rfl (fun K hK => ?_) AllReadyH.nil
      clear hHeld
      go_simp
      go_at_call 16
      with_reducible refine (HC1.out _ _ _ _ (HE0.out _ (HF9.out.trans hacc)).2.2.2.1).mono ?_
      rintro e x1 ⟨rfl, fx⟩
      have hacc := hacc.trans fx
      clear fx
      refine hK.out _ _ (PS.out _ hacc) (fun hHeld => ?_)
      clear hK K
      try simp only [Act.put, List.setIfInBounds_toArray, List.set_cons_zero, List.set_cons_succ, List.getElem_toArray, List.getElem_cons_succ, List.getElem_cons_zero]
      refine wpAnyH_ready (rs := [3]) (by kernel_rfl) (by simp) ?_
      refine AllReadyH.cons rfl (fun K hK => ?_) AllReadyH.nil
      clear hHeld
      go_simp
      go_at_call 17
      with_reducible refine (HC2.out _ _ _ _ (HE0.out _ (HF9.out.trans hacc)).2.2.2.2).mono ?_
      rintro e x2 ⟨rfl, fx⟩
      have hacc := hacc.trans fx
      clear fx
      refine hK.out _ _ (PS.out _ hacc) (fun hHeld => ?_)
      clear hK K
      try simp only [Act.put, List.setIfInBounds_toArray, List.set_cons_zero, List.set_cons_succ, List.getElem_toArray, List.getElem_cons_succ, List.getElem_cons_zero]
      refine wpAnyH_take (i := 4) (v := ?_) rfl (by kernel_rfl) (by kernel_rfl) (by kernel_rfl) (fun _ _ _ h => h) (Or.inl ⟨by rfl, ?_⟩) hHeld ?_
      rotate_left 1
      · (intro w hSw; (try dsimp only at hSw); go_simp <;> with_reducible rfl)
      try simp only [Act.put, List.setIfInBounds_toArray, List.set_cons_zero, List.set_cons_succ, List.getElem_toArray, List.getElem_cons_succ, List.getElem_cons_zero]
      refine wpAnyH_take (i := 5) (v := ?_) rfl (by kernel_rfl) (by kernel_rfl) (by kernel_rfl) (fun _ _ _ h => h) (Or.inl ⟨by rfl, ?_⟩) hHeld ?_
      rotate_left 1
      · (intro w hSw; (try dsimp only at hSw); go_simp <;> with_reducible rfl)
      try simp only [Act.put, List.setIfInBounds_toArray, List.set_cons_zero, List.set_cons_succ, List.getElem_toArray, List.getElem_cons_succ, List.getElem_cons_zero]
      refine wpAnyH_take (i := 6) (v := ?_) rfl (by kernel_rfl) (by kernel_rfl) (by kernel_rfl) (fun _ _ _ h => h) (Or.inl ⟨by rfl, ?_⟩) hHeld ?_
      rotate_left 1
      · (intro w hSw; (try dsimp only at hSw); go_simp <;> with_reducible rfl)
      try simp only [Act.put, List.setIfInBounds_toArray, List.set_cons_zero, List.set_cons_succ, List.getElem_toArray, List.getElem_cons_succ, List.getElem_cons_zero]
      refine wpAnyH_take (i := 7) (v := ?_) rfl (by kernel_rfl) (by kernel_rfl) (by kernel_rfl) (fun _ _ _ h => h) (Or.inl ⟨by rfl, ?_⟩) hHeld ?_
      rotate_left 1
      · (intro w hSw; (try dsimp only at hSw); go_simp <;> with_reducible rfl)
      try simp only [Act.put, List.setIfInBounds_toArray, List.set_cons_zero, List.set_cons_succ, List.getElem_toArray, List.getElem_cons_succ, List.getElem_cons_zero]
      refine wpAnyH_take (i := 9) (v := ?_) rfl (by kernel_rfl) (by kernel_rfl) (by kernel_rfl) (fun _ _ _ h => h) (Or.inl ⟨by rfl, ?_⟩) hHeld ?_
      rotate_left 1
      · (intro w hSw; (try dsimp only at hSw); go_simp <;> with_reducible rfl)
      try simp only [Act.put, List.setIfInBounds_toArray, List.set_cons_zero, List.set_cons_succ, List.getElem_toArray, List.getElem_cons_succ, List.getElem_cons_zero]
      refine wpAnyH_take (i := 10) (v := ?_) rfl (by kernel_rfl) (by kernel_rfl) (by kernel_rfl) (fun _ _ _ h => h) (Or.inl ⟨by rfl, ?_⟩) hHeld ?_
      rotate_left 1
      · (intro w hSw; (try dsimp only at hSw); go_simp <;> with_reducible rfl)
      try simp only [Act.put, List.setIfInBounds_toArray, List.set_cons_zero, List.set_cons_succ, List.getElem_toArray, List.getElem_cons_succ, List.getElem_cons_zero]
      refine wpAnyH_ready (rs := [8]) (by kernel_rfl) (by simp) ?_
      refine AllReadyH.cons rfl (fun K hK => ?_) AllReadyH.nil
      clear hHeld
      go_simp
      go_at_call 18
      with_reducible refine (HW1.out _ _ _ _ (HE0.out _ (HF9.out.trans hacc)).2.2.2.1).mono ?_
      rintro e x3 ⟨rfl, fx⟩
      have hacc := hacc.trans fx
      clear fx
      refine hK.out _ _ (PS.out _ hacc) (fun hHeld => ?_)
      clear hK K
      try simp only [Act.put, List.setIfInBounds_toArray, List.set_cons_zero, List.set_cons_succ, List.getElem_toArray, List.getElem_cons_succ, List.getElem_cons_zero]
      refine wpAnyH_ready (rs := [11]) (by kernel_rfl) (by simp) ?_
      refine AllReadyH.cons rfl (fun K hK => ?_) AllReadyH.nil
      clear hHeld
      go_simp
      go_at_call 19
      with_reducible refine (HW2.out _ _ _ _ (HE0.out _ (HF9.out.trans hacc)).2.2.2.2).mono ?_
      rintro e x4 ⟨rfl, fx⟩
      have hacc := hacc.trans fx
      clear fx
      refine hK.out _ _ (PS.out _ hacc) (fun hHeld => ?_)
      clear hK K
      try simp only [Act.put, List.setIfInBounds_toArray, List.set_cons_zero, List.set_cons_succ, List.getElem_toArray, List.getElem_cons_succ, List.getElem_cons_zero]
      refine wpAnyH_take (i := 12) (v := ?_) rfl (by kernel_rfl) (by kernel_rfl) (by kernel_rfl) (fun _ _ _ h => h) (Or.inl ⟨by rfl, ?_⟩) hHeld ?_
      rotate_left 1
      · (intro w hSw; (try dsimp only at hSw); go_simp <;> with_reducible rfl)
      try simp only [Act.put, List.setIfInBounds_toArray, List.set_cons_zero, List.set_cons_succ, List.getElem_toArray, List.getElem_cons_succ, List.getElem_cons_zero]
      refine wpAnyH_take (i := 13) (v := ?_) rfl (by kernel_rfl) (by kernel_rfl) (by kernel_rfl) (fun _ _ _ h => h) (Or.inl ⟨by rfl, ?_⟩) hHeld ?_
      rotate_left 1
      · (intro w hSw; (try dsimp only at hSw); go_simp <;> with_reducible rfl)
      try simp only [Act.put, List.setIfInBounds_toArray, List.set_cons_zero, List.set_cons_succ, List.getElem_toArray, List.getElem_cons_succ, List.getElem_cons_zero]
      refine wpAnyH_take (i := 14) (v := ?_) rfl (by kernel_rfl) (by kernel_rfl) (by kernel_rfl) (fun _ _ _ h => h) (Or.inl ⟨by rfl, ?_⟩) hHeld ?_
      rotate_left 1
      · (intro w hSw; (try dsimp only at hSw); go_simp <;> with_reducible rfl)
      try simp only [Act.put, List.setIfInBounds_toArray, List.set_cons_zero, List.set_cons_succ, List.getElem_toArray, List.getElem_cons_succ, List.getElem_cons_zero]
      refine wpAnyH_take (i := 15) (v := ?_) rfl (by kernel_rfl) (by kernel_rfl) (by kernel_rfl) (fun _ _ _ h => h) (Or.inl ⟨by rfl, ?_⟩) hHeld ?_
      rotate_left 1
      · (intro w hSw; (try dsimp only at hSw); go_simp <;> with_reducible rfl)
      try simp only [Act.put, List.setIfInBounds_toArray, List.set_cons_zero, List.set_cons_succ, List.getElem_toArray, List.getElem_cons_succ, List.getElem_cons_zero]
      refine wpAnyH_take (i := 16) (v := ?_) rfl (by kernel_rfl) (by kernel_rfl) (by kernel_rfl) (fun _ _ _ h => h) (Or.inl ⟨by rfl, ?_⟩) hHeld ?_
      rotate_left 1
      · (intro w hSw; (try dsimp only at hSw); go_simp <;> with_reducible rfl)
      try simp only [Act.put, List.setIfInBounds_toArray, List.set_cons_zero, List.set_cons_succ, List.getElem_toArray, List.getElem_cons_succ, List.getElem_cons_zero]
      refine wpAnyH_ready (rs := [17]) (by kernel_rfl) (by simp) ?_
      refine AllReadyH.cons rfl (fun K hK => ?_) AllReadyH.nil
      clear hHeld
      go_simp
      go_at_call 15
      with_reducible refine (HSC.out _ _ _ _ _ _ _ (HE0.out _ (HF9.out.trans hacc)).2.2.2.1 (HE0.out _ (HF9.out.trans hacc)).2.2.2.2).mono ?_
      rintro e x5 ⟨rfl, fx⟩
      have hacc := hacc.trans fx
      clear fx
      refine hK.out _ _ (PS.out _ hacc) (fun hHeld => ?_)
      clear hK K
      try simp only [Act.put, List.setIfInBounds_toArray, List.set_cons_zero, List.set_cons_succ, List.getElem_toArray, List.getElem_cons_succ, List.getElem_cons_zero]
      refine wpAnyH_take (i := 18) (v := ?_) rfl (by kernel_rfl) (by kernel_rfl) (by kernel_rfl) (fun _ _ _ h => h) (Or.inl ⟨by rfl, ?_⟩) hHeld ?_
      rotate_left 1
      · (intro w hSw; (try dsimp only at hSw); go_simp <;> with_reducible rfl)
      try simp only [Act.put, List.setIfInBounds_toArray, List.set_cons_zero, List.set_cons_succ, List.getElem_toArray, List.getElem_cons_succ, List.getElem_cons_zero]
      refine wpAnyH_take (i := 19) (v := ?_) rfl (by kernel_rfl) (by kernel_rfl) (by kernel_rfl) (fun _ _ _ h => h) (Or.inl ⟨by rfl, ?_⟩) hHeld ?_
      rotate_left 1
      · (intro w hSw; (try dsimp only at hSw); go_simp <;> with_reducible rfl)
      try simp only [Act.put, List.setIfInBounds_toArray, List.set_cons_zero, List.set_cons_succ, List.getElem_toArray, List.getElem_cons_succ, List.getElem_cons_zero]
      refine wpAnyH_done (by kernel_rfl) ?_ _
      clear hHeld
      as_aux_lemma =>
        have HFA := hid (HF9.out.trans hacc)
        have TA := hid (T9.out.trans hacc)
        have CK3 := hid (fun W (f : Fr (· ∈ footOf (.slice a3 n3 k3)) x5 W) => by
          have h := K3.out _ TA.out
          exact (show W.cell? ⟨b3, 4, none⟩ = some (.slice a3 n3 k3) from (h.1.keep f (h.2.ne h.1)).cell 4 rfl))
        have SH3 := hid (K3.out _ TA.out).2.sh
        clear hacc PS
        go_wp2_with fail
        go_loopw [20] (fun i wq => ∃ j : Nat, j ≤ n3 ∧ i = .int .i64 j ∧ Sh wq a3 n3 k3 ∧ Fr (· ∈ footOf (.slice a3 n3 k3)) x5 wq) (fun i _ => n3 - (intOf i).toNat)
        case atStart => exact ⟨0, Nat.zero_le _, rfl, SH3.out, Fr.refl _ _⟩
        case round =>
          obtain ⟨j, hj, rfl, hsh, hf⟩ := hrel
          have c4 := CK3.out _ hf
          by_cases hlt : j < n3
          · obtain ⟨g, cur, rfl, hB, hs, hnk⟩ := hsh (by omega)
            have HG := hid hB
            have hlc : j * 6 + 3 < cur.size := by rw [hs]; omega
            have g3 := hB.cell (j * 6 + 3) (Array.getElem?_eq_getElem hlc)
            have g3f := hB.free (j * 6 + 3)
            have HS := hid hs
            have hj9 : wrap64 ((j : Int) + 1) = ((j + 1 : Nat) : Int) := w64 (by omega) (by have := NB3.out; omega)
            generalize cur[j * 6 + 3] = old at g3
            clear hB hs hlc hsh
            go_wp2_with fail
            go_roundw
            case rel => exact ⟨j + 1, by omega, congrArg (Value.int .i64) hj9, fun _ => ⟨g, _, rfl, HG.out.set (j * 6 + 3) _, by rw [Array.size_setIfInBounds]; exact HS.out, hnk⟩, hf.setCell (by simp [footOf, Value.ownBlock]) _⟩
            case measure => rw [hj9]; simp [intOf]; omega
          · have hjn : j = n3 := by omega
            subst hjn
            have CK5 := hid (fun W (f : Fr (· ∈ footOf (.slice a5 n5 k5)) wr W) => by
              have h := K5.out _ TA.out
              have h3 := K3.out _ TA.out
              have hr := row_keep h.2.1 hf D35.out
              exact (show W.cell? ⟨b5, 4, none⟩ = some (.slice a5 n5 k5) from (((h.1.keep hf (h3.2.ne h.1))).keep f (fun hk => row_nev hr (h.1.keep hf (h3.2.ne h.1)) _ hk rfl)).cell 4 rfl))
            have SH5 : Hid (Sh wr a5 n5 k5) := hid ((show RowIs wr _ _ _ from ⟨row_keep (K5.out _ TA.out).2.1 hf D35.out, (K5.out _ TA.out).2.2⟩).sh)
            have HFB := hid (HFA.out.own hf U3.out)
            go_wp2_with fail
            go_loopw [21] (fun i wq => ∃ j : Nat, j ≤ n5 ∧ i = .int .i64 j ∧ Sh wq a5 n5 k5 ∧ Fr (· ∈ footOf (.slice a5 n5 k5)) wr wq) (fun i _ => n5 - (intOf i).toNat)
            case atStart => exact ⟨0, Nat.zero_le _, rfl, SH5.out, Fr.refl _ _⟩
            case round =>
              obtain ⟨j, hj, rfl, hsh, hf⟩ := hrel
              have c4 := CK5.out _ hf
              by_cases hlt : j < n5
              · obtain ⟨g, cur, rfl, hB, hs, hnk⟩ := hsh (by omega)
                have HG := hid hB
                have hlc : j * 6 + 3 < cur.size := by rw [hs]; omega
                have g3 := hB.cell (j * 6 + 3) (Array.getElem?_eq_getElem hlc)
                have g3f := hB.free (j * 6 + 3)
                have HS := hid hs
                have hj9 : wrap64 ((j : Int) + 1) = ((j + 1 : Nat) : Int) := w64 (by omega) (by have := NB5.out; omega)
                generalize cur[j * 6 + 3] = old at g3
                clear hB hs hlc hsh
                go_wp2_with fail
                go_roundw
                case rel => exact ⟨j + 1, by omega, congrArg (Value.int .i64) hj9, fun _ => ⟨g, _, rfl, HG.out.set (j * 6 + 3) _, by rw [Array.size_setIfInBounds]; exact HS.out, hnk⟩, hf.setCell (by simp [footOf, Value.ownBlock]) _⟩
                case measure => rw [hj9]; simp [intOf]; omega
              · have hjn : j = n5 := by omega
                subst hjn
                have HFC := hid (HFB.out.own hf U5.out)
                obtain ⟨HP, HQ, HI, hia, hiv⟩ := HE0.out _ HFC.out
                go_wp2_with (first | (refine wpList_load_part rfl 26 _ rfl aggCm p 0 rfl HP #[.int .i64 c.s, .int .i64 c.r, .int .i64 c.m, .int .i64 c.h, .slice ao N cap] rfl rfl ?_) | (refine wpList_load_part rfl 26 _ rfl aggCm i 0 rfl HI #[.int .i64 c.s, .int .i64 c.r, .int .i64 c.m, .int .i64 c.h, .slice bo N bc] rfl rfl ?_) | (refine wpList_load_part rfl 28 _ rfl aggEnt q 0 rfl HQ #[.int .i64 x.n, .int .i64 x.s, .int .i64 x.r, .int .i64 x.a, .int .i64 x.h, .int .i64 x.c] rfl rfl ?_))
                with_reducible refine (HSC.out _ _ _ _ _ _ _ hia hiv).mono ?_
                rintro e y1 ⟨rfl, g1⟩
                go_wp2_with fail
                with_reducible refine (awake_any _).mono ?_
                rintro e y2 ⟨rfl, g2⟩
                go_wp2_with fail
                go_ret
                exact ⟨rfl, HF04.out.trans ((HFC.out.trans g1).trans g2)⟩
end Go.Proofs.Ytecngibenlcdiaa
