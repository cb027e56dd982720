/-
  WHAT Seal OF sum, AND THE REFERENCE's Seal, MAKE. Conditions: at most 2^47 bytes in all.
-/
import Derived.Test.YtalbncnhmofgaaaROf
import Derived.Test.YtalbncnhmofgaaaGrow
namespace Go.Proofs.Ytalbncnhmofgaaa
open Go.RowKit

def be (x : Nat) : List Int := [((x / 16777216 % 256 : Nat) : Int), ((x / 65536 % 256 : Nat) : Int), ((x / 256 % 256 : Nat) : Int), ((x % 256 : Nat) : Int)]
def sealed (zs : List Int) : List Int := zs ++ be (crc (nb zs))
theorem sealed_len (zs : List Int) : (sealed zs).length = zs.length + 4 := by simp [sealed, be]
theorem be_byte (x : Nat) : AllB (be x) := by
  intro z hz
  simp only [be, List.mem_cons, List.not_mem_nil, or_false] at hz
  rcases hz with rfl | rfl | rfl | rfl <;> omega
theorem sealed_byte {zs : List Int} (h : AllB zs) : AllB (sealed zs) := h.append (be_byte _)

def IsSeal (w : World) (zs : List Int) (e : Ending) (w' : World) : Prop :=
  ∃ v', e = .returned v' ∧ w'.ownsRow 0 5 1 v' (zs.length + 4) ((sealed zs).map (.int .u8)) ∧ Fr (fun _ => False) w w' ∧ Above w.heap.size (footOf v')

theorem four_new (w : World) (u1 u2 u3 u4 : Value) (t : TypeId) : ∀ j x, ([u1, u2, u3, u4] : List Value)[j]? = some x → (w.alloc (.cells #[u1, u2, u3, u4] t)).cell? ((⟨w.heap.size, 0, none⟩ : Addr).add j) = some x := by
  intro j x hj
  rw [Addr.add_lit]
  have hb : Blk (w.alloc (.cells #[u1, u2, u3, u4] t)) w.heap.size #[u1, u2, u3, u4] t := Blk.new w _ t
  rw [Nat.zero_add]
  exact hb.cell j (by simpa using hj)
theorem four_int (k : IntKind) (a b c d : Int) : ∀ u ∈ ([.int k a, .int k b, .int k c, .int k d] : List Value), u.oneCell' = true := ints_one k [a, b, c, d]

set_option maxRecDepth 100000 in
set_option maxHeartbeats 2000000 in
theorem seal_any (v : Value) (zs : List Int) (w : World) (hv : Vw .u8 w v zs) (hb : AllB zs) (hl : zs.length + 4 ≤ 140737488355328) :
    Calls Try.prog 31 #[v] w (IsSeal w zs) := by
  obtain ⟨i0, i1, i2, i3, i4⟩ := byteI
  go_enter Try.func31, Try.ntmps31
  go_wp2_with fail
  refine (clone_any v zs w hv (by omega)).mono ?_
  rintro e w1 ⟨v1, rfl, r1, f1, a1⟩
  go_wp2_with fail
  refine (grow_any v1 _ _ w1 r1 (by omega)).mono ?_
  rintro e w2 ⟨v2, rfl, r2, f2, g2⟩
  have a2 := a1.grows g2 f1.size
  have f12 := f1.trans f2
  go_wp2_with fail
  refine (of_any v zs w2 (hv.keep0 f12) hb).mono ?_
  rintro e w3 ⟨rfl, f3⟩
  have f13 := f12.trans f3
  have r3 := row_keep r2 f3 (fun _ _ h => h)
  have hX := crc_lt (nb zs)
  have HS : Hid (sealed zs = zs ++ be (crc (nb zs))) := hid rfl
  generalize crc (nb zs) = X at *
  clear r1 r2 f1 f2 f3 g2 a1 f12
  go_wp2_with fail
  go_loopw [3, 5] (fun o s wr => ∃ k : Nat, k ≤ 4 ∧ s = .int .i64 (24 - 8 * (k : Int)) ∧ wr.ownsRow 0 5 1 o (zs.length + k) ((zs ++ (be X).take k).map (.int .u8)) ∧ Above w.heap.size (footOf o) ∧ Fr (fun _ => False) w wr)
    (fun _ s _ => (intOf s + 8).toNat)
  case atStart => exact ⟨0, by omega, rfl, by simpa using r3, a2, f13⟩
  case round =>
    obtain ⟨k, hk, rfl, hr, ha, hf⟩ := hrel
    clear r3 a2 f13
    have hk' : k = 0 ∨ k = 1 ∨ k = 2 ∨ k = 3 ∨ k = 4 := by omega
    have HX := hid hX
    clear hX
    rcases hk' with rfl | rfl | rfl | rfl | rfl
    case inr.inr.inr.inr =>
      rw [show (be X).take 4 = be X from rfl, ← HS.out] at hr
      go_wp2_with fail
      refine bodyPost_ret (by simp [results, Try.results31, go_sem]) rfl ⟨_, rfl, hr, hf, ha⟩
    case inl =>
      go_wp2_with (at_builtin; refine wpList_append_row rfl _ _ 22 rfl 5 i0 (.int .u8 0) 1 1 Try.underlying22 i1 i2 i3 i4 rfl (by decide) _ _ _ rfl (hr.alloc _) ⟨_, 0, none⟩ 1 1 [.int .u8 _] rfl rfl (one_new _ _ _) (one_int _ _) (by simp only [maxLen]; omega) (by omega) ?_)
      intro v' w' q1 q2 q3 _
      go_wp2_with fail
      go_roundw
      case rel =>
        refine ⟨1, by omega, rfl, by simpa [be] using q1, fun b hb => ?_, (hf.alloc _).own q2 ha⟩
        rcases q3 b hb with h | h
        · exact ha b h
        · have := hf.size; simp at h; omega
      case measure => simp [intOf]
    case inr.inl =>
      go_wp2_with (at_builtin; refine wpList_append_row rfl _ _ 22 rfl 5 i0 (.int .u8 0) 1 1 Try.underlying22 i1 i2 i3 i4 rfl (by decide) _ _ _ rfl (hr.alloc _) ⟨_, 0, none⟩ 1 1 [.int .u8 _] rfl rfl (one_new _ _ _) (one_int _ _) (by simp only [maxLen]; omega) (by omega) ?_)
      intro v' w' q1 q2 q3 _
      go_wp2_with fail
      go_roundw
      case rel =>
        refine ⟨2, by omega, rfl, by simpa [be] using q1, fun b hb => ?_, (hf.alloc _).own q2 ha⟩
        rcases q3 b hb with h | h
        · exact ha b h
        · have := hf.size; simp at h; omega
      case measure => simp [intOf]
    case inr.inr.inl =>
      go_wp2_with (at_builtin; refine wpList_append_row rfl _ _ 22 rfl 5 i0 (.int .u8 0) 1 1 Try.underlying22 i1 i2 i3 i4 rfl (by decide) _ _ _ rfl (hr.alloc _) ⟨_, 0, none⟩ 1 1 [.int .u8 _] rfl rfl (one_new _ _ _) (one_int _ _) (by simp only [maxLen]; omega) (by omega) ?_)
      intro v' w' q1 q2 q3 _
      go_wp2_with fail
      go_roundw
      case rel =>
        refine ⟨3, by omega, rfl, by simpa [be] using q1, fun b hb => ?_, (hf.alloc _).own q2 ha⟩
        rcases q3 b hb with h | h
        · exact ha b h
        · have := hf.size; simp at h; omega
      case measure => simp [intOf]
    case inr.inr.inr.inl =>
      go_wp2_with (at_builtin; refine wpList_append_row rfl _ _ 22 rfl 5 i0 (.int .u8 0) 1 1 Try.underlying22 i1 i2 i3 i4 rfl (by decide) _ _ _ rfl (hr.alloc _) ⟨_, 0, none⟩ 1 1 [.int .u8 _] rfl rfl (one_new _ _ _) (one_int _ _) (by simp only [maxLen]; omega) (by omega) ?_)
      intro v' w' q1 q2 q3 _
      go_wp2_with fail
      go_roundw
      case rel =>
        refine ⟨4, by omega, rfl, by simpa [be] using q1, fun b hb => ?_, (hf.alloc _).own q2 ha⟩
        rcases q3 b hb with h | h
        · exact ha b h
        · have := hf.size; simp at h; omega
      case measure => simp [intOf]

set_option maxRecDepth 100000 in
set_option maxHeartbeats 2000000 in
theorem rseal_any (v : Value) (zs : List Int) (w : World) (hv : Vw .u8 w v zs) (hb : AllB zs) (hl : zs.length + 4 ≤ 140737488355328) :
    Calls Try.prog 41 #[v] w (IsSeal w zs) := by
  obtain ⟨i0, i1, i2, i3, i4⟩ := byteI
  go_enter Try.func41, Try.ntmps41
  go_wp2_with fail
  refine (rof_any v zs w hv hb).mono ?_
  rintro e w1 ⟨rfl, rfl⟩
  have hX := crc_lt (nb zs)
  have HS : Hid (sealed zs = zs ++ be (crc (nb zs))) := hid rfl
  generalize crc (nb zs) = X at *
  have HX := hid hX
  clear hX
  go_wp2_with (at_builtin; refine wpList_append_vw rfl _ _ 22 rfl 5 i0 _ 1 Try.underlying22 i1 i2 i3 i4 rfl (.slice none 0 0) 0 [] rfl (World.ownsRow_nil w1 0 5 1) .u8 v zs rfl hv (by unfold maxLen; omega) (by omega) ?_)
  intro v2 w2 r2 f2 g2
  have f0 : Fr (fun _ => False) w1 w2 := f2.mono (fun k _ h => by simp [footOf, Value.ownBlock] at h)
  go_wp2_with (at_builtin; refine wpList_append_row rfl _ _ 22 rfl 5 i0 (.int .u8 0) 1 1 Try.underlying22 i1 i2 i3 i4 rfl (by decide) _ _ _ rfl (r2.alloc _) ⟨_, 0, none⟩ 4 4 [.int .u8 _, .int .u8 _, .int .u8 _, .int .u8 _] rfl rfl (four_new _ _ _ _ _ _) (four_int _ _ _ _ _) (by simp only [maxLen]; omega) (by omega) ?_)
  intro v3 w3 q1 q2 q3 _
  go_wp2_with fail
  refine bodyPost_ret (v := v3) (by simp [results, Try.results41, go_sem]) rfl ⟨_, rfl, by rw [HS.out]; simpa [be] using q1, (f0.alloc _).own q2 ?_, fun b hb => ?_⟩
  · intro b hb
    rcases g2 b hb with h | h
    · simp [footOf, Value.ownBlock] at h
    · exact h
  · rcases q3 b hb with h | h
    · rcases g2 b h with h | h
      · simp [footOf, Value.ownBlock] at h
      · exact h
    · have := f0.size; simp at h; omega
end Go.Proofs.Ytalbncnhmofgaaa
