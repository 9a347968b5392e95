/- What the document fixes of robq holds: the law's own 'awake' answers true. -/
import Derived.Test.YtdfcbfcnanpolaaRobc
namespace Go.Proofs.Ytdfcbfcnanpolaa
open Go.RowKit

theorem RdE.nil {w : World} : RdE w none [] := Reads.none_
/-- A call that answers true and turns nothing that was there. -/
def SaysTrue (w : World) (e : Ending) (w' : World) : Prop := e = .returned (.bool true) ∧ Below w.heap.size w w'

set_option maxRecDepth 100000 in
set_option maxHeartbeats 2000000 in
theorem awake9 (w : World) : Calls Try.prog 15 #[] w (SaysTrue w) := by
  go_enter Try.func15, Try.ntmps15
  go_wp2_with fail
  refine (push_yes none 0 [] ⟨1, 0, 0, -1, 0, false, false, false⟩ 2 _ (by simp) RdE.nil (by simp)).mono ?_
  rintro en w1 ⟨v1, rfl, h1, b1⟩
  obtain ⟨A1, c1, rfl, hc1, r1⟩ := h1.shape
  have R1 := Kept.mk r1
  have B1 := Kept.mk b1
  clear r1 h1 b1
  go_wp2_with fail
  refine (push_yes A1 c1 [⟨1, 0, 0, -1, 0, false, false, false⟩] ⟨2, 0, 0, 0, 0, false, false, false⟩ 2 _ (by simp) R1.out (by simp)).mono ?_
  rintro en w2 ⟨v2, rfl, h2, b2⟩
  obtain ⟨A2, c2, rfl, hc2, r2⟩ := h2.shape
  have R2 := Kept.mk r2
  have B2 := Kept.mk (B1.out.trans (b2.mono B1.out.size))
  clear r2 h2 b2 B1 R1
  go_wp2_with fail
  refine (push_no A2 c2 [⟨1, 0, 0, -1, 0, false, false, false⟩, ⟨2, 0, 0, 0, 0, false, false, false⟩] Ent.zero 2 _ (by simp)).mono ?_
  rintro en w3 ⟨rfl, b3⟩
  have R3 := Kept.mk (R2.out.past b3)
  have B3 := Kept.mk (B2.out.trans (b3.mono B2.out.size))
  clear b3 R2 B2
  go_wp2_with fail
  refine (pop_some A2 c2 ⟨1, 0, 0, -1, 0, false, false, false⟩ [⟨2, 0, 0, 0, 0, false, false, false⟩] _ R3.out hc2 (by simp) (by intro e he; simp at he; subst he; simp [Ent.small])).mono ?_
  rintro en w4 ⟨v4, rfl, h4, b4⟩
  obtain ⟨A4, c4, rfl, hc4, r4⟩ := h4.shape
  have R4 := Kept.mk (R3.out.past b4)
  have B4 := Kept.mk (B3.out.trans (b4.mono B3.out.size))
  have P4 := Kept.mk r4
  clear b4 R3 B3 h4 r4
  go_wp2_with fail
  refine (put_yes A2 c2 [⟨1, 0, 0, -1, 0, false, false, false⟩, ⟨2, 0, 0, 0, 0, false, false, false⟩] 1 ⟨9, 0, 0, 0, 0, false, false, false⟩ _ (R4.out.past (below_alloc_self _ _)) (by simp) (by simp)).mono ?_
  rintro en w5 ⟨v5, rfl, h5, b5⟩
  obtain ⟨A5, c5, rfl, hc5, r5⟩ := h5.shape
  have hbox : w5.heap[w4.heap.size]? = some (.cells (Ent.cs ⟨1, 0, 0, -1, 0, false, false, false⟩).toArray 27 (0, 0)) := (b5.block _ (by simp)).trans (heap_alloc_new w4 _)
  obtain ⟨z0, -⟩ := EntAt.of_cells (e := ⟨1, 0, 0, -1, 0, false, false, false⟩) (fun j u _ hu => cells_of_block hbox j u hu)
  have b45 : Below w4.heap.size w4 w5 := (below_alloc_self w4 _).trans (b5.mono (by simp))
  have R5 := Kept.mk (R4.out.past b45)
  have B5 := Kept.mk (B4.out.trans (b45.mono B4.out.size))
  obtain ⟨p1, o1, rfl, -, q0, q1, q2, q3, -⟩ := (P4.out.past b45).elem (k := 0) (by simp)
  obtain ⟨p2, o2, rfl, -, m0, -⟩ := r5.elem (k := 1) (by simp)
  obtain ⟨p3, o3, rfl, -, n0, -⟩ := R5.out.elem (k := 1) (by simp)
  simp [Ent.down] at q0 q1 q2 q3 m0 n0
  clear h5 b5 b45 hbox B4 R4 P4 r5 q1 q2
  go_wp2_with fail
  refine (cut_any (some ⟨p3, o3, Option.none⟩) c2 [⟨1, 0, 0, -1, 0, false, false, false⟩, ⟨2, 0, 0, 0, 0, false, false, false⟩] 1 _ R5.out hc2 (by simp)).mono ?_
  rintro en w6 ⟨v6, rfl, h6, b6⟩
  obtain ⟨A6, c6, rfl, hc6, -⟩ := h6.shape
  have R6 := Kept.mk (R5.out.past b6)
  have B6 := Kept.mk (B5.out.trans (b6.mono B5.out.size))
  clear h6 b6 B5 R5
  go_wp2_with fail
  refine (cut_any (some ⟨p3, o3, Option.none⟩) c2 [⟨1, 0, 0, -1, 0, false, false, false⟩, ⟨2, 0, 0, 0, 0, false, false, false⟩] (-1) _ R6.out hc2 (by simp)).mono ?_
  rintro en w7 ⟨v7, rfl, h7, b7⟩
  obtain ⟨A7, c7, rfl, hc7, -⟩ := h7.shape
  have B7 := Kept.mk (B6.out.trans (b7.mono B6.out.size))
  clear h7 b7 B6 R6
  go_wp2_with fail
  go_ret
  exact ⟨rfl, B7.out⟩
end Go.Proofs.Ytdfcbfcnanpolaa
