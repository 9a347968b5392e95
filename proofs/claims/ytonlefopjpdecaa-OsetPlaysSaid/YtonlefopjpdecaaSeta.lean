/- What is asked of a set: a key by its place, how many keys are below one. -/
import Derived.Test.YtonlefopjpdecaaSetw
namespace Go.Proofs.Ytonlefopjpdecaa
open Go.RowKit Go.Maps

/-- A copy of bytes that a call has made, with the mark that the conversion of a string leaves. -/
structure Copy (w : World) (B g c : Nat) (l : List UInt8) : Prop where
  lo : B ≤ g
  hg : w.heap[g]? = some (.cells (bytesRow ⟨l.toArray⟩ c) 5 ((bytesRow ⟨l.toArray⟩ c).size, (bytesRow ⟨l.toArray⟩ c).size + 1))
  cap : l.length ≤ c
theorem Copy.reads {w : World} {B g c : Nat} {l : List UInt8} (h : Copy w B g c l) : RdB w (some ⟨g, 0, none⟩) l := by
  refine ⟨by simp [bytCs], fun _ => ⟨_, rfl, rfl, (Array.getElem?_eq_some_iff.1 h.hg).1, fun j u hu => ?_⟩⟩
  obtain ⟨hj, rfl⟩ := List.getElem?_eq_some_iff.1 hu
  rw [bytCs_length] at hj
  rw [cell_of_row w g (0 + j) _ _ _ h.hg, Nat.zero_add, bytesRow_at _ _ _ (by simpa using hj)]
  simp [bytCs]
theorem Copy.past {w w' : World} {B g c : Nat} {l : List UInt8} (h : Copy w B g c l) (hb : Below w.heap.size w w') : Copy w' B g c l := ⟨h.lo, (hb.block g (Array.getElem?_eq_some_iff.1 h.hg).1).trans h.hg, h.cap⟩

set_option maxHeartbeats 1000000 in
theorem at_no {w : World} {B S M : Nat} {v : Value} {most : Nat} {L : List (List UInt8)} (h : SetAt w B S M v most L) (i : Int) (hi : i < 0 ∨ (L.length : Int) ≤ i) :
    Calls Try.prog 11 #[.pointer (some ⟨S, 0, none⟩), .int .i64 i] w fun en w' => en = .returned (.tuple #[.slice none 0 0, .bool false]) ∧ w' = w := by
  obtain ⟨A, c, rfl, hc, hr⟩ := h.row.shape
  have z1 := cell_of_row w S 1 _ _ _ h.hS
  clear h hr
  have hor : i < 0 ∨ (0 ≤ i ∧ (L.length : Int) ≤ i) := by omega
  clear hi
  rcases hor with h1 | ⟨h1, h2⟩
  · go_enter Try.func11, Try.ntmps11
    go_wp2_with fail
    go_ret2
    exact ⟨rfl, rfl⟩
  · go_enter Try.func11, Try.ntmps11
    go_wp2_with fail
    go_ret2
    exact ⟨rfl, rfl⟩
set_option maxHeartbeats 1000000 in
theorem at_key {w : World} {B S M : Nat} {v : Value} {most : Nat} {L : List (List UInt8)} (h : SetAt w B S M v most L) (i : Nat) (hi : i < L.length) :
    Calls Try.prog 11 #[.pointer (some ⟨S, 0, none⟩), .int .i64 (i : Nat)] w fun en w' => ∃ c, en = .returned (.tuple #[.slice (some ⟨w.heap.size, 0, none⟩) L[i].length c, .bool true]) ∧ Copy w' w.heap.size w.heap.size c L[i] ∧ Below w.heap.size w w' := by
  obtain ⟨A, c, rfl, hc, hr⟩ := h.row.shape
  have z1 := cell_of_row w S 1 _ _ _ h.hS
  obtain ⟨b, o, rfl, hb, q0⟩ := hr.at_ hi
  have kb := fun (w : World) => run_bytes_of_string (P := Try.prog) w 9 25 5 ⟨L[i].toArray⟩ Try.underlying9 Try.underlying25 Try.underlying5
  have hlt : (i : Int) < L.length := by omega
  clear h hr
  go_enter Try.func11, Try.ntmps11
  go_wp2_with fail
  go_ret2
  exact ⟨_, rfl, ⟨Nat.le_refl _, heap_at_new rfl, grownCap_ge _ _ _ _⟩, (below_alloc_self w _).drew⟩
set_option maxHeartbeats 1000000 in
theorem rank_set {w : World} {B S M : Nat} {v : Value} {most : Nat} {L : List (List UInt8)} (h : SetAt w B S M v most L) (A : Option Addr) (n c : Nat) (s : List UInt8) (hl : s.length = n) (hr : RdB w A s) :
    Calls Try.prog 14 #[.pointer (some ⟨S, 0, none⟩), .slice A n c] w fun en w' => en = .returned (.int .i64 (rankOf L s : Nat)) ∧ Below w.heap.size w w' := by
  obtain ⟨A1, c1, rfl, hc1, hr1⟩ := h.row.shape
  have z1 := cell_of_row w S 1 _ _ _ h.hS
  have HL := h.le
  have HG := h.big
  have HR := Kept.mk hr
  have HR1 := Kept.mk hr1
  clear h hr hr1
  go_enter Try.func14, Try.ntmps14
  go_wp2_with fail
  go_loopw [5, 13] (fun nv iv wr => ∃ k : Nat, k ≤ L.length ∧ iv = .int .i64 k ∧ nv = .int .i64 (rankOf (L.take k) s : Nat) ∧ Below w.heap.size w wr) (fun _ iv _ => L.length - (intOf iv).toNat)
  case atStart => exact ⟨0, by omega, rfl, rfl, Below.refl _ _⟩
  case round =>
    obtain ⟨k, hk, rfl, rfl, hb⟩ := hrel
    have HB := Kept.mk hb
    clear hb
    by_cases hlt : k < L.length
    · obtain ⟨b, o, rfl, hb1, q0⟩ := (HR1.out.past HB.out).at_ hlt
      have kb := fun (w : World) => run_bytes_of_string (P := Try.prog) w 9 25 5 ⟨L[k].toArray⟩ Try.underlying9 Try.underlying25 Try.underlying5
      have HS := Kept.mk (rank_step (s := s) hlt)
      have hrk := rank_le (L.take k) s
      rw [List.length_take] at hrk
      have w1 : IntKind.i64.wrap ((rankOf (L.take k) s : Nat) + 1 : Int) = (rankOf (L.take k) s : Nat) + 1 := IntWalk.i64_in _ (by omega)
      go_wp2_with fail
      refine (code_less (some ⟨wr.heap.size, 0, Option.none⟩) A _ _ _ c L[k] s _ rfl hl (Reads.drew (str_reads _ _ _ _ rfl)) ?rd).mono ?_
      case rd => exact Reads.drew (RdB.past (RdB.past HR.out HB.out) (below_alloc_self _ _))
      rintro en w2 ⟨rfl, hw⟩
      have HW : Kept (Below w.heap.size w w2) := ⟨by rw [hw]; exact HB.out.trans (((below_alloc_self wr _).mono HB.out.size).drew)⟩
      clear hw kb
      cases hx : lessB L[k] s with
      | true =>
        rw [hx] at HS
        have HX := Kept.mk hx
        clear hx
        go_wp2_with fail
        go_roundw
        case rel => exact ⟨k + 1, by omega, by go_num, by rw [HS.out]; simp, HW.out⟩
        case measure => simp [intOf]; omega
      | false =>
        rw [hx] at HS
        have HX := Kept.mk hx
        clear hx
        go_wp2_with fail
        go_roundw
        case rel => exact ⟨k + 1, by omega, by go_num, by rw [HS.out]; simp, HW.out⟩
        case measure => simp [intOf]; omega
    · have hke : L.take k = L := List.take_of_length_le (by omega)
      rw [hke]
      clear hke
      go_wp2_with fail
      go_ret
      exact ⟨rfl, HB.out⟩
end Go.Proofs.Ytonlefopjpdecaa
