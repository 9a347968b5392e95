/- What the document fixes of package oset holds: the law's own 'awake' answers true. -/
import Derived.Test.YtonlefopjpdecaaSetn
import Derived.Lib.SlBytesConst
namespace Go.Proofs.Ytonlefopjpdecaa
open Go.RowKit Go.Maps

/-- A call that answers true and turns nothing that was there. -/
def SaysTrue (w : World) (e : Ending) (w' : World) : Prop := e = .returned (.bool true) ∧ Below w.heap.size w w'
theorem Touch.below {w w' : World} {B S M : Nat} {v : Value} {most : Nat} {L : List (List UInt8)} (h : SetAt w B S M v most L) (t : Touch w w' S M v) (hB : B ≤ w.heap.size) : Below B w w' :=
  ⟨t.os, t.tape, t.output, t.size, fun k hk => t.block k (by omega) (by have := h.bS; omega) (by have := h.bM; omega) (fun e => by have := (World.ownsRow.lt h.row k e.symm).1; omega)⟩

set_option maxRecDepth 100000 in
set_option maxHeartbeats 4000000 in
theorem awake3 (w : World) : Calls Try.prog 8 #[] w (SaysTrue w) := by
  have kc := fun (w : World) (C : Array Value) (n c : Nat) => Lib.run_convert_bytes_const (P := Try.prog) w 25 5 C n c Try.underlying25 Try.underlying5
  go_enter Try.func8, Try.ntmps8
  go_wp2_with fail
  refine (new_set 2 w).mono ?_
  rintro en w1 ⟨rfl, h1, b1⟩
  have H1 : Kept (SetAt w1 w.heap.size (w.heap.size + 1) w.heap.size (.slice none 0 0) 2 []) := ⟨h1⟩
  have B1 := Kept.mk b1
  clear h1 b1
  go_wp2_with fail
  refine (add_new (SetAt.past H1.out (below_alloc_self _ _)) (some ⟨w1.heap.size, 0, Option.none⟩) 1 1 [98] rfl (reads_block (heap_at_new rfl) rfl) (by simp [maxLen]) (by decide) (by decide)).mono ?_
  rintro en w2 ⟨rfl, v2, h2, t2, -⟩
  have H2 := Kept.mk h2
  have B2 := Kept.mk (B1.out.trans (((below_alloc_self w1 _).mono B1.out.size).trans (Touch.below (SetAt.past H1.out (below_alloc_self _ _)) t2 (by have := B1.out.size; simp; omega))))
  clear h2 t2 H1 B1
  go_wp2_with fail
  refine (add_new (SetAt.past H2.out (below_alloc_self _ _)) (some ⟨w2.heap.size, 0, Option.none⟩) 1 1 [97] rfl (reads_block (heap_at_new rfl) rfl) (by simp [maxLen]) (by decide) (by decide)).mono ?_
  rintro en w3 ⟨rfl, v3, h3, t3, -⟩
  have H3 := Kept.mk h3
  have B3 := Kept.mk (B2.out.trans (((below_alloc_self w2 _).mono B2.out.size).trans (Touch.below (SetAt.past H2.out (below_alloc_self _ _)) t3 (by have := B2.out.size; simp; omega))))
  clear h3 t3 H2 B2
  go_wp2_with fail
  refine (add_there (SetAt.past H3.out (below_alloc_self _ _)) (some ⟨w3.heap.size, 0, Option.none⟩) 1 1 [98] rfl (reads_block (heap_at_new rfl) rfl) (by simp [maxLen]) (by decide)).mono ?_
  rintro en w4 ⟨rfl, kd, rfl⟩
  have HH := Kept.mk ((SetAt.past H3.out (below_alloc_self w3 (.cells (bytCs [98]).toArray 5 (1, 2)))).drewN kd)
  have BB := Kept.mk (B3.out.trans (below_drewN ((below_alloc_self w3 (.cells (bytCs [98]).toArray 5 (1, 2))).mono B3.out.size) kd))
  generalize hw4 : World.drewN _ kd = w4
  have H4 : Kept (SetAt w4 _ _ _ _ _ _) := ⟨by rw [← hw4]; exact HH.out⟩
  have B4 : Kept (Below w.heap.size w w4) := ⟨by rw [← hw4]; exact BB.out⟩
  clear HH BB hw4 H3 B3
  go_wp2_with fail
  refine (add_full (SetAt.past H4.out (below_alloc_self _ _)) (some ⟨w4.heap.size, 0, Option.none⟩) 1 1 [99] rfl (reads_block (heap_at_new rfl) rfl) (by simp [maxLen]) (by decide) (by decide)).mono ?_
  rintro en w5 ⟨rfl, kd, rfl⟩
  have HH := Kept.mk ((SetAt.past H4.out (below_alloc_self w4 (.cells (bytCs [99]).toArray 5 (1, 2)))).drewN kd)
  have BB := Kept.mk (B4.out.trans (below_drewN ((below_alloc_self w4 (.cells (bytCs [99]).toArray 5 (1, 2))).mono B4.out.size) kd))
  generalize hw5 : World.drewN _ kd = w5
  have H5 : Kept (SetAt w5 _ _ _ _ _ _) := ⟨by rw [← hw5]; exact HH.out⟩
  have B5 : Kept (Below w.heap.size w w5) := ⟨by rw [← hw5]; exact BB.out⟩
  clear HH BB hw5 H4 B4
  go_wp2_with fail
  refine (at_key H5.out 1 (by decide)).mono ?_
  rintro en w6 ⟨c6, rfl, hcp, b6⟩
  have H6 := Kept.mk (H5.out.past b6)
  have B6 := Kept.mk (B5.out.trans (b6.mono B5.out.size))
  have hst := run_string (n := 1) (c := c6) hcp.reads rfl
  have hst : (convert 25 9 (.slice (some ⟨w5.heap.size, 0, Option.none⟩) 1 c6)).run Try.prog w6 = .ok (.string ⟨#[97]⟩) w6 := hst
  clear hcp b6 H5 B5
  go_wp2_with fail
  clear hst
  refine (rank_set (SetAt.past H6.out (below_alloc_self _ _)) (some ⟨w6.heap.size, 0, Option.none⟩) 1 1 [98] rfl (reads_block (heap_at_new rfl) rfl)).mono ?_
  rintro en w7 ⟨rfl, b7⟩
  have b7 : Below w6.heap.size w6 w7 := (below_alloc_self w6 _).trans (b7.mono (by simp))
  rw [show rankOf ([] ++ [[98]] ++ [[97]]) [98] = 1 by decide]
  have H7 := Kept.mk (H6.out.past b7)
  have B7 := Kept.mk (B6.out.trans (b7.mono B6.out.size))
  clear b7 H6 B6
  go_wp2_with fail
  refine (rank_set (SetAt.past H7.out (below_alloc_self _ _)) (some ⟨w7.heap.size, 0, Option.none⟩) 2 2 [122, 122] rfl (reads_block (heap_at_new rfl) rfl)).mono ?_
  rintro en w8 ⟨rfl, b8⟩
  have b8 : Below w7.heap.size w7 w8 := (below_alloc_self w7 _).trans (b8.mono (by simp))
  rw [show rankOf ([] ++ [[98]] ++ [[97]]) [122, 122] = 2 by decide]
  have H8 := Kept.mk (H7.out.past b8)
  have B8 := Kept.mk (B7.out.trans (b8.mono B7.out.size))
  clear b8 H7 B7
  go_wp2_with fail
  refine (len_set H8.out).mono ?_
  rintro en w9 ⟨rfl, hw⟩
  have b9 : Below w8.heap.size w8 w9 := by rw [hw]; exact Below.refl _ _
  clear hw
  have H9 := Kept.mk (H8.out.past b9)
  have B9 := Kept.mk (B8.out.trans (b9.mono B8.out.size))
  clear b9 H8 B8
  go_wp2_with fail
  refine (has_key (SetAt.past H9.out (below_alloc_self _ _)) (some ⟨w9.heap.size, 0, Option.none⟩) 1 1 [97] rfl (reads_block (heap_at_new rfl) rfl) (by simp [maxLen])).mono ?_
  rintro en w10 ⟨rfl, kd, hw⟩
  have b10 : Below w9.heap.size w9 w10 := by rw [hw]; exact below_drewN (below_alloc_self w9 _) kd
  rw [decide_eq_true (show (([97] : List UInt8) ∈ ([] ++ [[98]] ++ [[97]] : List (List UInt8))) by decide)]
  clear hw
  have H10 := Kept.mk (H9.out.past b10)
  have B10 := Kept.mk (B9.out.trans (b10.mono B9.out.size))
  clear b10 H9 B9
  go_wp2_with fail
  refine (has_key (SetAt.past H10.out (below_alloc_self _ _)) (some ⟨w10.heap.size, 0, Option.none⟩) 1 1 [99] rfl (reads_block (heap_at_new rfl) rfl) (by simp [maxLen])).mono ?_
  rintro en w11 ⟨rfl, kd, hw⟩
  have b11 : Below w10.heap.size w10 w11 := by rw [hw]; exact below_drewN (below_alloc_self w10 _) kd
  rw [decide_eq_false (show ¬ (([99] : List UInt8) ∈ ([] ++ [[98]] ++ [[97]] : List (List UInt8))) by decide)]
  clear hw
  have H11 := Kept.mk (H10.out.past b11)
  have B11 := Kept.mk (B10.out.trans (b11.mono B10.out.size))
  clear b11 H10 B10
  go_wp2_with fail
  go_ret
  exact ⟨rfl, B11.out⟩
end Go.Proofs.Ytonlefopjpdecaa
