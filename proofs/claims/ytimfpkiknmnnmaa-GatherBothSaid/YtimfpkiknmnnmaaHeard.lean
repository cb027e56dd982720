/-
  WHOM A GATHERING HEARS, IN WHATEVER ORDER ITS MAP COMES. Conditions: as for the other calls.
-/
import Derived.Test.YtimfpkiknmnnmaaGather
namespace Go.Proofs.Ytimfpkiknmnnmaa
open Go.RowKit

def crew (N : Int) : List J3 → Nat
  | [] => 2 ^ N.toNat
  | j :: r => crew N r ||| 2 ^ j.1.toNat
theorem crew_bit (N : Int) (L : List J3) (i : Nat) : (crew N L).testBit i = (decide (N.toNat = i) || L.any fun j => decide (j.1.toNat = i)) := by
  induction L with
  | nil => simp [crew, Nat.testBit_two_pow]
  | cons j r ih =>
    simp only [crew, Nat.testBit_or, ih, Nat.testBit_two_pow, List.any_cons]
    rw [Bool.or_assoc]
    congr 1
    exact Bool.or_comm _ _
theorem two_pow_512 {n : Int} (h1 : 1 ≤ n) (h2 : n ≤ 8) : 2 ^ n.toNat < 2 ^ 9 := Nat.pow_lt_pow_right (by decide) (by omega)
theorem crew_lt {N : Int} {L : List J3} (h1 : 1 ≤ N) (h2 : N ≤ 8) (hk : ∀ j ∈ L, 1 ≤ j.1 ∧ j.1 ≤ 8) : crew N L < 2 ^ 9 := by
  induction L with
  | nil => exact two_pow_512 h1 h2
  | cons j r ih =>
    have hj := hk j (by simp)
    exact Nat.or_lt_two_pow (ih fun q hq => hk q (by simp [hq])) (two_pow_512 hj.1 hj.2)

theorem es_of {w : World} {b : Nat} {L : List J3} (h : MapIs w b (Value.int .i64) (mv L)) : ∃ es clock, w.heap[b]? = some (.map es clock) ∧ (es.toList.map (·.born)).Nodup ∧ (∀ e ∈ es.toList, e.born < clock) ∧
    es.toList.map (fun e => (e.key, e.val)) = L.map (fun j => (.int .i64 j.1, jv j)) ∧ ∀ e ∈ es.toList, ∃ j ∈ L, e.key = .int .i64 j.1 ∧ e.val = jv j := by
  obtain ⟨es, clock, h1, h2, h3, h4⟩ := h
  simp only [mv, List.map_map] at h2
  have h2' : es.toList.map (fun e => (e.key, e.val)) = L.map (fun j => (Value.int .i64 j.1, jv j)) := h2
  refine ⟨es, clock, h1, h3, h4, h2', fun e he => ?_⟩
  have : (e.key, e.val) ∈ es.toList.map (fun e => (e.key, e.val)) := List.mem_map.2 ⟨e, he, rfl⟩
  rw [h2'] at this
  obtain ⟨j, hj, hq⟩ := List.mem_map.1 this
  simp only [Prod.mk.injEq] at hq
  exact ⟨j, hj, hq.1.symm, hq.2.symm⟩

def seenBit (N : Int) (es : Array MapEntry) (seen : Array Nat) (i : Nat) : Bool := decide (N.toNat = i) || es.toList.any fun e => seen.contains e.born && decide ((valOf e.key).toNat = i)
theorem seenBit_none (N : Int) (es : Array MapEntry) (i : Nat) : seenBit N es #[] i = (2 ^ N.toNat).testBit i := by
  simp [seenBit, Nat.testBit_two_pow]
theorem seenBit_push {N : Int} {es : Array MapEntry} {seen : Array Nat} {e : MapEntry} (hn : (es.toList.map (·.born)).Nodup) (he : e ∈ es.toList) (i : Nat) :
    seenBit N es (seen.push e.born) i = (seenBit N es seen i || decide ((valOf e.key).toNat = i)) := by
  unfold seenBit
  rw [Bool.or_assoc]
  congr 1
  rw [Bool.eq_iff_iff]
  simp only [List.any_eq_true, Bool.and_eq_true, decide_eq_true_eq, Bool.or_eq_true]
  constructor
  · rintro ⟨x, hx, hc, hk⟩
    rw [contains_push] at hc
    rcases Bool.or_eq_true _ _ ▸ hc with h1 | h1
    · exact .inl ⟨x, hx, h1, hk⟩
    · have : x = e := born_inj hn hx he (beq_iff_eq.1 h1)
      subst this; exact .inr hk
  · rintro (⟨x, hx, hc, hk⟩ | hk)
    · exact ⟨x, hx, by rw [contains_push, hc, Bool.true_or], hk⟩
    · exact ⟨e, he, by rw [contains_push, beq_self_eq_true, Bool.or_true], hk⟩
theorem seenBit_all {N : Int} {es : Array MapEntry} {seen : Array Nat} {L : List J3} (h0 : (leftOf es seen).size = 0) (hes : es.toList.map (fun e => (e.key, e.val)) = L.map (fun j => (.int .i64 j.1, jv j))) (i : Nat) :
    seenBit N es seen i = (crew N L).testBit i := by
  rw [crew_bit]
  unfold seenBit
  congr 1
  have h1 : (es.toList.any fun e => seen.contains e.born && decide ((valOf e.key).toNat = i)) = (es.toList.map (fun e => (e.key, e.val))).any fun p => decide ((valOf p.1).toNat = i) := by
    rw [List.any_map, Bool.eq_iff_iff]
    simp only [List.any_eq_true, Bool.and_eq_true, Function.comp]
    constructor
    · rintro ⟨x, hx, _, hk⟩; exact ⟨x, hx, hk⟩
    · rintro ⟨x, hx, hk⟩; exact ⟨x, hx, all_seen es seen h0 x hx, hk⟩
  rw [h1, hes, List.any_map]
  rfl
theorem iter_left {w : World} {r bm : Nat} {es : Array MapEntry} {clock : Nat} {seen : Array Nat} (h : IterIs w r bm es clock seen) : w.iterSeen r = seen := by
  unfold World.iterSeen; rw [h.it]

set_option maxRecDepth 100000 in
theorem heard_any {g b : Nat} {N C T : Int} {L : List J3} (w : World) (h : GS w g b N C T L) : Calls Try.prog 30 #[.pointer (some ⟨g, 0, none⟩)] w fun e w' => e = .returned (.int .i64 (crew N L : Nat)) ∧ Fr (fun _ => False) w w' := by
  have c0 := h.blk.cell 0 rfl
  have c3 := h.blk.cell 3 rfl
  have hn0 := h.n0
  have hn1 := h.n1
  have hsh := shl64 N.toNat (by omega)
  obtain ⟨x0, hx0⟩ : ∃ x0, x0 = 2 ^ N.toNat := ⟨_, rfl⟩
  rw [← hx0] at hsh
  have HSH := hid hsh
  have HX0 := hid hx0
  clear hx0
  obtain ⟨es, clock, hb, hnd, hst, hes, hmem⟩ := es_of h.map
  have hrg := run_range_map (P := Try.prog) w 52 3 34 b es clock Try.underlying52 hb
  have HI := hid (IterIs.new hb)
  have HE := hid hes
  have HM := hid hmem
  have HND := hid hnd
  have HST := hid hst
  have HK := hid h.keys
  have h2 := two_pow_512 hn0 hn1
  have H2 := hid h2
  clear hes hmem hnd hst h2
  go_enter Try.func30, Try.ntmps30
  go_wp2_with fail
  clear hrg hsh c0 c3
  have hz := lt_of_block hb
  have f0 : Fr (fun _ => False) w (w.alloc (.mapIter (some b) clock #[] clock)) := (Fr.refl _ w).alloc _
  generalize w.alloc (.mapIter (some b) clock #[] clock) = w0 at *
  obtain ⟨r, hr⟩ : ∃ r, r = w.heap.size := ⟨_, rfl⟩
  rw [← hr] at HI ⊢
  have HR := hid hr
  clear hr
  go_loopw [3] (fun c wr => ∃ x : Nat, ∃ seen, c = .int .i64 (x : Int) ∧ x < 2 ^ 9 ∧ (∀ i, x.testBit i = seenBit N es seen i) ∧ IterIs wr r b es clock seen ∧ Fr (fun _ => False) w wr) (fun _ w' => (leftOf es (w'.iterSeen r)).size)
  case atStart => exact ⟨x0, #[], by first | rfl | rw [HSH.out], by rw [HX0.out]; exact H2.out, fun i => by rw [seenBit_none, HX0.out], HI.out, f0⟩
  case round =>
    obtain ⟨x, seen, rfl, hx, hbits, hit, hf⟩ := hrel
    have HIT := hid hit
    have HB := hid hbits
    have HX := hid hx
    rcases next_at (P := Try.prog) hit HST.out with ⟨h0, hnx⟩ | ⟨e, he, w1, hnx, hit1, f1⟩
    · have HEQ : Hid (x = crew N L) := hid (Nat.eq_of_testBit_eq fun i => by rw [hbits i]; exact seenBit_all h0 HE.out i)
      clear hit hbits hx h0
      go_wp2_with fail
      go_ret
      exact ⟨ret_int (by rw [HEQ.out]), hf⟩
    · have hmem := (mem_left he).1
      obtain ⟨j, hj, hk, hv⟩ := HM.out e hmem
      have hen := entry_at (P := Try.prog) hit1 hmem HND.out
      rw [hk, hv] at hnx hen
      have hjk := HK.out j hj
      have hsh := shl64 j.1.toNat (by omega)
      have h2 := two_pow_512 hjk.1 hjk.2
      have hor := i64_or_nat x (2 ^ j.1.toNat) (by omega) (by omega)
      have HN := hid (Nat.or_lt_two_pow hx h2)
      have HB2 : Hid (∀ i, (x ||| 2 ^ j.1.toNat).testBit i = seenBit N es (seen.push e.born) i) := hid (fun i => by
        rw [seenBit_push HND.out hmem, Nat.testBit_or, hbits i, hk, Nat.testBit_two_pow]; rfl)
      have HL := hid (left_shrinks es seen e he)
      have HIT1 := hid hit1
      have f2 : Fr (fun _ => False) w w1 := hf.step f1 (fun i hi h => by have := HR.out; omega)
      obtain ⟨y, hy⟩ : ∃ y, y = 2 ^ j.1.toNat := ⟨_, rfl⟩
      obtain ⟨z, hz⟩ : ∃ z, z = x ||| y := ⟨_, rfl⟩
      rw [← hy] at hsh hor HN HB2
      rw [← hz] at hor HN HB2
      have HSJ := hid hsh
      have HOJ := hid hor
      clear hit hbits hx hit1 h2 he hmem hv hy hz
      go_wp2_with fail
      go_roundw
      case rel => exact ⟨z, _, by first | rfl | rw [HSJ.out, HOJ.out] | rw [HOJ.out], HN.out, HB2.out, HIT1.out, f2⟩
      case measure => rw [iter_left HIT1.out, iter_left HIT.out]; exact HL.out
end Go.Proofs.Ytimfpkiknmnnmaa
