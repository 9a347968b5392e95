/- What the document fixes of robq holds: the law's own 'awake' answers true. What the document fixes of retb holds: the law's own 'awake' answers true. -/
import Derived.Test.YtchldbkjapnlcaaJa
import Derived.Test.YtchldbkjapnlcaaJb
set_option linter.unusedVariables false
set_option linter.unusedSimpArgs false
section
namespace Go.Proofs.Ytchldbkjapnlcaa
open Go.RowKit

theorem RdE.nil {w : World} : RdE w none [] := Reads.none_
/-- A call that answers true and turns nothing that was there. -/
def SaysTrue (w : World) (e : Ending) (w' : World) : Prop := e = .returned (.bool true) ∧ Below w.heap.size w w'

end Go.Proofs.Ytchldbkjapnlcaa
end
section
namespace Go.Proofs.Ytchldbkjapnlcaa
open Go.RowKit

def il12 : List Inst := [⟨8, 0, 0, false, 0, false, 0, ⟨#[]⟩, 1⟩, ⟨9, 0, 0, false, 0, false, 0, ⟨#[]⟩, 0⟩]
def el12 : List Ent := [⟨0, 0, 0, 0, 0, false, false, false⟩, ⟨1, 0, 0, 0, 0, false, false, false⟩, ⟨1, 0, 0, 0, 0, false, false, false⟩, ⟨1, 0, 0, 0, 0, false, false, false⟩]
theorem real12a : realOf il12 [5] (el12.take (3 : Int).toNat) = some [] := by decide
theorem real12b : realOf il12 [5] (el12.take (4 : Int).toNat) = none := by decide

set_option maxRecDepth 100000 in
set_option maxHeartbeats 2000000 in
theorem awake12 (w : World) : Calls Try.prog 18 #[] w (SaysTrue w) := by
  go_enter Try.func18, Try.ntmps18
  go_wp2_with fail
  go_outline
  refine (rpush _ 2 [1, 2] 3 _ ?r0 (by simp)).mono ?_
  case r0 => exact reads_block (heap_at_new (by simp)) rfl
  rintro en w1 ⟨v1, rfl, h1, b1⟩
  obtain ⟨A1, c1, rfl, hc1, r1⟩ := h1.shape
  have hI := (b1.block w.heap.size (by simp; omega)).trans ((heap_alloc_old _ _ (by simp; omega)).trans ((heap_alloc_old _ _ (by simp)).trans (heap_alloc_new w (.cells (instCs il12).toArray 53))))
  have hP := (b1.block (w.heap.size + 1) (by simp)).trans ((heap_alloc_old _ _ (by simp)).trans (heap_alloc2_new w _ (.cells (Prg.cs ⟨1, 0, 0, 0, 0, 0, 0, .slice none 0 0, .slice none 0 0, some ⟨w.heap.size, 0, none⟩, 2, 2⟩).toArray 33)))
  have R1 := Kept.mk r1
  have B1 := Kept.mk (((((below_alloc_self w _).alloc (by simp) _).alloc (by simp; omega) _)).trans (b1.mono (by simp; omega)))
  have NI : Kept (RdN w1 (some ⟨w.heap.size, 0, none⟩) il12) := ⟨reads_block (n := 2) (size := 9) hI rfl⟩
  have HP := Kept.mk hP
  have S1 : w.heap.size + 2 < w1.heap.size := by have := b1.size; simp at this; omega
  clear r1 h1 b1 hI hP
  go_wp2_with fail
  refine (rpop_some A1 c1 1 [2, 3] _ rfl hc1 R1.out (by omega)).mono ?_
  rintro en w2 ⟨v2, rfl, h2, b2⟩
  obtain ⟨A2, c2, rfl, hc2, r2⟩ := h2.shape
  have R2 := Kept.mk r2
  have B2 := Kept.mk (B1.out.trans (b2.mono B1.out.size))
  have NI2 := Kept.mk (NI.out.past b2)
  have HP2 := Kept.mk ((b2.block _ (by omega)).trans HP.out)
  have S2 : w.heap.size + 2 < w2.heap.size := Nat.lt_of_lt_of_le S1 b2.size
  clear r2 h2 b2 B1 R1 NI HP S1
  go_wp2_with fail
  refine (rpop_none none 0 _).mono ?_
  rintro en w3 ⟨rfl, b3⟩
  have R3 := Kept.mk (R2.out.past b3)
  have B3 := Kept.mk (B2.out.trans (b3.mono B2.out.size))
  have NI3 := Kept.mk (NI2.out.past b3)
  have HP3 := Kept.mk ((b3.block _ (by omega)).trans HP2.out)
  have S3 : w.heap.size + 2 < w3.heap.size := Nat.lt_of_lt_of_le S2 b3.size
  clear b3 R2 B2 NI2 HP2 S2
  obtain ⟨p0, p1, p2, p3, p4, p5, p6, p7, p8, p9⟩ := PrgAt.of_block HP3.out
  simp only at p0 p1 p2 p3 p4 p5 p6 p7 p8 p9
  go_wp2_with fail
  refine (real_yes ⟨1, 0, 0, 0, 0, 0, 0, .slice none 0 0, .slice none 0 0, some ⟨w.heap.size, 0, none⟩, 2, 2⟩ il12 _ 1 [5] _ 4 el12 3 [] _ real12a rfl (by simp) ?np ?ns (by simp) ?ne (by simp [el12]) (by simp [el12])).mono ?_
  case np => exact (NI3.out.past (below_alloc_self _ _)).past (below_alloc_self _ _)
  case ns => exact reads_block (cs := intCs [5]) (heap_alloc2_old _ _ _) rfl
  case ne => exact reads_block (heap_at_new (by simp)) rfl
  rintro en w4 ⟨v4, rfl, h4, b4⟩
  obtain ⟨A4, c4, rfl, hc4, -⟩ := h4.shape
  have hb4 := ((below_alloc_self w3 _).alloc (by simp) _).trans (b4.mono (by simp; omega))
  have R4 := Kept.mk (R3.out.past hb4)
  have B4 := Kept.mk (B3.out.trans (hb4.mono B3.out.size))
  have NI4 := Kept.mk (NI3.out.past hb4)
  have HP4 := Kept.mk ((hb4.block _ (by omega)).trans HP3.out)
  have S4 : w.heap.size + 2 < w4.heap.size := Nat.lt_of_lt_of_le S3 hb4.size
  clear b4 h4 R3 B3 NI3 HP3 S3 p0 p1 p2 p3 p4 p5 p6 p7 p8 p9 hb4
  obtain ⟨p0, p1, p2, p3, p4, p5, p6, p7, p8, p9⟩ := PrgAt.of_block HP4.out
  simp only at p0 p1 p2 p3 p4 p5 p6 p7 p8 p9
  go_wp2_with fail
  refine (real_no ⟨1, 0, 0, 0, 0, 0, 0, .slice none 0 0, .slice none 0 0, some ⟨w.heap.size, 0, none⟩, 2, 2⟩ il12 _ 1 [5] _ 4 el12 4 _ real12b rfl (by simp) ?np ?ns (by simp) ?ne (by simp [el12]) (by simp [el12])).mono ?_
  case np => exact (NI4.out.past (below_alloc_self _ _)).past (below_alloc_self _ _)
  case ns => exact reads_block (cs := intCs [5]) (heap_alloc2_old _ _ _) rfl
  case ne => exact reads_block (heap_at_new (by simp)) rfl
  rintro en w5 ⟨rfl, b5⟩
  have hb5 := ((below_alloc_self w4 _).alloc (by simp) _).trans (b5.mono (by simp; omega))
  have B5 := Kept.mk (B4.out.trans (hb5.mono B4.out.size))
  have r5 := R4.out.past hb5
  obtain ⟨b, o, rfl, hbs, q0⟩ := r5.at_ (i := 0) (by simp)
  simp only [List.take_succ_cons, List.take_zero, List.getElem_cons_zero, Nat.add_zero] at q0
  clear b5 r5 hb5 R4 B4 NI4 HP4 S4 p0 p1 p2 p3 p4 p5 p6 p7 p8 p9
  go_wp2_with fail
  go_outline
  go_ret
  exact ⟨rfl, B5.out⟩
end Go.Proofs.Ytchldbkjapnlcaa
end
