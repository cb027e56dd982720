/-
  WRITERS AND READERS THAT ARE NONE: nil, or made by nobody. Conditions: none.
-/
import Derived.Test.YtbgcbcbnlfemiaaWordN
namespace Go.Proofs.Ytbgcbcbnlfemiaa
open Go.RowKit

def NoW (w : World) (p : Value) : Prop := p = .pointer none ∨ ∃ g, p = .pointer (some ⟨g, 0, none⟩) ∧ Blk w g #[.slice none 0 0, .bool false] 60
def NoR (w : World) (p : Value) : Prop := p = .pointer none ∨ ∃ g, p = .pointer (some ⟨g, 0, none⟩) ∧ Blk w g #[.slice none 0 0, .bool false] 61
theorem NoW.keep {w w' : World} {p : Value} (h : NoW w p) (f : Fr (fun _ => False) w w') : NoW w' p := by
  rcases h with h | ⟨g, h, b⟩
  · exact .inl h
  · exact .inr ⟨g, h, b.keep f (fun h => h)⟩
theorem NoR.keep {w w' : World} {p : Value} (h : NoR w p) (f : Fr (fun _ => False) w w') : NoR w' p := by
  rcases h with h | ⟨g, h, b⟩
  · exact .inl h
  · exact .inr ⟨g, h, b.keep f (fun h => h)⟩

theorem wno_none (p : Value) (w : World) (h : NoW w p) : Calls Try.prog 37 #[p] w fun e w' => e = .returned (.bool true) ∧ w = w' := by
  rcases h with rfl | ⟨g, rfl, hb⟩
  · go_enter Try.func37, Try.ntmps37
    go_wp2
    go_ret
    exact ⟨rfl, rfl⟩
  · have c1 := hb.cell 1 rfl
    go_enter Try.func37, Try.ntmps37
    go_wp2
    go_ret
    exact ⟨rfl, rfl⟩
theorem rno_none (p : Value) (w : World) (h : NoR w p) : Calls Try.prog 34 #[p] w fun e w' => e = .returned (.bool true) ∧ w = w' := by
  rcases h with rfl | ⟨g, rfl, hb⟩
  · go_enter Try.func34, Try.ntmps34
    go_wp2
    go_ret
    exact ⟨rfl, rfl⟩
  · have c1 := hb.cell 1 rfl
    go_enter Try.func34, Try.ntmps34
    go_wp2
    go_ret
    exact ⟨rfl, rfl⟩
theorem wno_put (p : Value) (V : Int) (w : World) (h : NoW w p) : Calls Try.prog 25 #[p, .int .i64 V] w fun e w' => e = .returned (.int .i64 1) ∧ w = w' := by
  have HN := hid (wno_none p w h)
  clear h
  go_enter Try.func25, Try.ntmps25
  go_wp2_with fail
  refine HN.out.mono ?_
  rintro e w1 ⟨rfl, rfl⟩
  go_wp2_with fail
  go_ret
  exact ⟨rfl, rfl⟩
theorem wno_fixed (p : Value) (V s : Int) (w : World) (h : NoW w p) : Calls Try.prog 27 #[p, .int .i64 V, .int .i64 s] w fun e w' => e = .returned (.int .i64 1) ∧ w = w' := by
  have HN := hid (wno_none p w h)
  clear h
  go_enter Try.func27, Try.ntmps27
  go_wp2_with fail
  refine HN.out.mono ?_
  rintro e w1 ⟨rfl, rfl⟩
  go_wp2_with fail
  go_ret
  exact ⟨rfl, rfl⟩
theorem wno_octets (p : Value) (a : Option Addr) (n c : Nat) (w : World) (h : NoW w p) : Calls Try.prog 29 #[p, .slice a n c] w fun e w' => e = .returned (.int .i64 1) ∧ w = w' := by
  have HN := hid (wno_put p (n : Int) w h)
  clear h
  go_enter Try.func29, Try.ntmps29
  go_wp2_with fail
  refine HN.out.mono ?_
  rintro e w1 ⟨rfl, rfl⟩
  go_wp2_with fail
  go_ret
  exact ⟨rfl, rfl⟩
theorem wno_bytes (p : Value) (w : World) (h : NoW w p) : Calls Try.prog 31 #[p] w fun e w' => e = .returned (.slice none 0 0) ∧ w = w' := by
  have HN := hid (wno_none p w h)
  clear h
  go_enter Try.func31, Try.ntmps31
  go_wp2_with fail
  refine HN.out.mono ?_
  rintro e w1 ⟨rfl, rfl⟩
  go_wp2_with fail
  go_ret
  exact ⟨rfl, rfl⟩
theorem rno_get (p : Value) (w : World) (h : NoR w p) : Calls Try.prog 14 #[p] w fun e w' => e = .returned (.tuple #[.int .i64 0, .int .i64 1]) ∧ w = w' := by
  have HN := hid (rno_none p w h)
  clear h
  go_enter Try.func14, Try.ntmps14
  go_wp2_with fail
  refine HN.out.mono ?_
  rintro e w1 ⟨rfl, rfl⟩
  go_wp2_with fail
  go_ret2
  exact ⟨rfl, rfl⟩
theorem rno_fixed (p : Value) (s : Int) (w : World) (h : NoR w p) : Calls Try.prog 16 #[p, .int .i64 s] w fun e w' => e = .returned (.tuple #[.int .i64 0, .int .i64 1]) ∧ w = w' := by
  have HN := hid (rno_none p w h)
  clear h
  go_enter Try.func16, Try.ntmps16
  go_wp2_with fail
  refine HN.out.mono ?_
  rintro e w1 ⟨rfl, rfl⟩
  go_wp2_with fail
  go_ret2
  exact ⟨rfl, rfl⟩
theorem rno_octets (p : Value) (s : Int) (w : World) (h : NoR w p) : Calls Try.prog 18 #[p, .int .i64 s] w fun e w' => e = .returned (.tuple #[.slice none 0 0, .int .i64 1]) ∧ w = w' := by
  have HN := hid (rno_none p w h)
  clear h
  go_enter Try.func18, Try.ntmps18
  go_wp2_with fail
  refine HN.out.mono ?_
  rintro e w1 ⟨rfl, rfl⟩
  go_wp2_with fail
  go_ret2
  exact ⟨rfl, rfl⟩
theorem rno_left (p : Value) (w : World) (h : NoR w p) : Calls Try.prog 20 #[p] w fun e w' => e = .returned (.int .i64 0) ∧ w = w' := by
  have HN := hid (rno_none p w h)
  clear h
  go_enter Try.func20, Try.ntmps20
  go_wp2_with fail
  refine HN.out.mono ?_
  rintro e w1 ⟨rfl, rfl⟩
  go_wp2_with fail
  go_ret
  exact ⟨rfl, rfl⟩
end Go.Proofs.Ytbgcbcbnlfemiaa
