/- What the functions of package oset answer. -/
import Derived.Test.YtonlefopjpdecaaSet
namespace Go.Proofs.Ytonlefopjpdecaa
open Go.RowKit Go.Maps

/-- A set lies at block S: its row is v, its map block M; all of it from block B on. -/
structure SetAt (w : World) (B S M : Nat) (v : Value) (most : Nat) (L : List (List UInt8)) : Prop where
  bS : B ≤ S
  bM : B ≤ M
  hS : w.heap[S]? = some (.cells #[.int .i64 (most : Nat), v, .map (some M)] 49 (0, 0))
  row : OwnS w B v L
  map : MapOf w M L
  nd : L.Nodup
  le : L.length ≤ most
  big : most ≤ 1000000
theorem SetAt.lt {w : World} {B S M : Nat} {v : Value} {most : Nat} {L : List (List UInt8)} (h : SetAt w B S M v most L) : S < w.heap.size := (Array.getElem?_eq_some_iff.1 h.hS).1
theorem SetAt.past {w w' : World} {B S M : Nat} {v : Value} {most : Nat} {L : List (List UInt8)} (h : SetAt w B S M v most L) (hb : Below w.heap.size w w') : SetAt w' B S M v most L :=
  ⟨h.bS, h.bM, (hb.block S h.lt).trans h.hS, h.row.past hb, h.map.same (hb.block M h.map.lt), h.nd, h.le, h.big⟩
theorem SetAt.drewN {w : World} {B S M : Nat} {v : Value} {most : Nat} {L : List (List UInt8)} (h : SetAt w B S M v most L) (k : Nat) : SetAt (w.drewN k) B S M v most L := ⟨h.bS, h.bM, h.hS, h.row, h.map.same rfl, h.nd, h.le, h.big⟩
theorem SetAt.lower {w : World} {B B' S M : Nat} {v : Value} {most : Nat} {L : List (List UInt8)} (h : SetAt w B S M v most L) (hb : B' ≤ B) : SetAt w B' S M v most L := ⟨Nat.le_trans hb h.bS, Nat.le_trans hb h.bM, h.hS, own_lower h.row hb, h.map, h.nd, h.le, h.big⟩

set_option maxHeartbeats 1000000 in
theorem new_set (m : Int) (w : World) :
    Calls Try.prog 7 #[.int .i64 m] w fun en w' => en = .returned (.pointer (some ⟨w.heap.size + 1, 0, none⟩)) ∧ SetAt w' w.heap.size (w.heap.size + 1) w.heap.size (.slice none 0 0) (min (max m 0) 1000000).toNat [] ∧ Below w.heap.size w w' := by
  have hmm := @run_makeMap Try.prog
  obtain ⟨K, hK, hK1⟩ : ∃ K : Nat, min (max m 0) 1000000 = (K : Int) ∧ K ≤ 1000000 := ⟨(min (max m 0) 1000000).toNat, by omega, by omega⟩
  have HK := Kept.mk hK
  go_enter Try.func7, Try.ntmps7
  go_wp2_with fail
  go_ret
  refine ⟨rfl, ⟨by omega, Nat.le_refl _, ?_, OwnS.nil, (MapOf.made w).same (heap_alloc_old _ _ (by simp)), List.nodup_nil, by simp, by omega⟩, (below_alloc_self w _).trans ((below_alloc_self _ _).mono (by simp))⟩
  rw [HK.out, Int.toNat_natCast]
  exact heap_at_new (by simp)
theorem len_set {w : World} {B S M : Nat} {v : Value} {most : Nat} {L : List (List UInt8)} (h : SetAt w B S M v most L) :
    Calls Try.prog 10 #[.pointer (some ⟨S, 0, none⟩)] w fun en w' => en = .returned (.int .i64 (L.length : Nat)) ∧ w' = w := by
  obtain ⟨A, c, rfl, hc, hr⟩ := h.row.shape
  have z1 := cell_of_row w S 1 _ _ _ h.hS
  clear h hr
  go_enter Try.func10, Try.ntmps10
  go_wp2_with fail
  go_ret
  exact ⟨rfl, rfl⟩
set_option maxHeartbeats 1000000 in
theorem has_key {w : World} {B S M : Nat} {v : Value} {most : Nat} {L : List (List UInt8)} (h : SetAt w B S M v most L) (A : Option Addr) (n c : Nat) (s : List UInt8) (hl : s.length = n) (hr : RdB w A s) (hs : s.length ≤ maxLen) :
    Calls Try.prog 12 #[.pointer (some ⟨S, 0, none⟩), .slice A n c] w fun en w' => en = .returned (.bool (decide (s ∈ L))) ∧ ∃ k, w' = w.drewN k := by
  have z2 := cell_of_row w S 2 _ _ _ h.hS
  have hst : ∀ k, (convert 25 9 (.slice A n c)).run Try.prog (w.drewN k) = .ok (.string ⟨s.toArray⟩) (w.drewN k) := fun k => run_string (w := w.drewN k) (c := c) (Reads.drewN hr k) hl
  have hlk : ∀ k, (Instr.lookup 47 (.map (some M)) (.string ⟨s.toArray⟩) true).run Try.prog (w.drewN k) = .ok (.tuple #[.int .i64 (place L s : Nat), .bool (decide (s ∈ L))]) (w.drewN k) := fun k => (h.drewN k).map.look hs
  clear h hr
  go_enter Try.func12, Try.ntmps12
  go_wp2_with fail
  go_quiet (fail)
  go_wp2_with fail
  go_ret
  exact ⟨rfl, _, rfl⟩
/-- How many keys are below one. -/
def rankOf (L : List (List UInt8)) (s : List UInt8) : Nat := L.countP fun x => lessB x s
theorem rank_step {L : List (List UInt8)} {s : List UInt8} {k : Nat} (hk : k < L.length) : rankOf (L.take (k + 1)) s = rankOf (L.take k) s + (if lessB L[k] s = true then 1 else 0) := by
  unfold rankOf
  rw [List.take_succ_eq_append_getElem hk, List.countP_append]
  congr 1
  simp [List.countP_cons]
theorem rank_le (L : List (List UInt8)) (s : List UInt8) : rankOf L s ≤ L.length := List.countP_le_length
theorem str_reads (W : World) (S : List UInt8) (cap : Nat) (fr : Nat × Nat) {g : Nat} (hg : g = W.heap.size) : RdB (W.alloc (.cells (bytesRow ⟨S.toArray⟩ cap) 5 fr)) (some ⟨g, 0, none⟩) S := by
  subst hg
  refine ⟨by simp [bytCs], fun _ => ⟨_, rfl, rfl, by rw [World.size_alloc]; exact Nat.lt_succ_self _, fun j u hu => ?_⟩⟩
  obtain ⟨hj, rfl⟩ := List.getElem?_eq_some_iff.1 hu
  rw [bytCs_length] at hj
  rw [World.cell?_alloc_mark, Nat.zero_add, bytesRow_at _ _ _ (by simpa using hj)]
  simp [bytCs]
end Go.Proofs.Ytonlefopjpdecaa
