/- The law FetcKinds. -/
import Derived.Test.YtchldbkjapnlcaaJKtab
import Derived.Test.YtchldbkjapnlcaaJKreg
import Derived.Test.YtchldbkjapnlcaaJo
import Derived.Test.YtchldbkjapnlcaaJg
import Derived.Test.YtchldbkjapnlcaaJs
import Derived.Test.YtchldbkjapnlcaaJb
import Derived.Test.YtchldbkjapnlcaaJc
import Derived.BigQuiet
set_option linter.unusedVariables false
set_option linter.unusedSimpArgs false
namespace Go.Proofs.Ytchldbkjapnlcaa
open Go.RowKit

def zeroK : Inst := ⟨0, 0, 0, false, 0, false, 0, ⟨#[]⟩, 0⟩
def insK (k : Nat) : List Inst := List.replicate k fenceK ++ List.replicate (5 - k) zeroK
theorem info_insK : (Try.prog.info? 53).map (fun i => (i.zero, i.size, i.bytes)) = some (some (.agg #[.int .i64 0, .int .i64 0, .int .i64 0, .bool false, .int .i64 0, .bool false, .int .i64 0, .string ⟨#[]⟩, .int .i64 0]), 9, 80) := by kernel_rfl
theorem made5 : madeCells (.mk [.int .i64 0, .int .i64 0, .int .i64 0, .bool false, .int .i64 0, .bool false, .int .i64 0, .string ⟨#[]⟩, .int .i64 0]) 45 = (instCs (insK 0)).toArray := by
  unfold madeCells
  rw [← List.toArray_range, List.map_toArray]
  exact congrArg List.toArray (by kernel_rfl)
theorem made_ins (w : World) : (Instr.makeSlice 31 (.int .i64 5) (.int .i64 5)).run Try.prog w = .ok (.slice (some ⟨w.heap.size, 0, none⟩) 5 5) (w.alloc (.cells (instCs (insK 0)).toArray 53)) := by
  obtain ⟨i0, hi0, hz0, hz1, hz2⟩ := info_parts info_insK
  have h := run_makeSlice (P := Try.prog) w 31 53 i0 _ Try.underlying31 hi0 hz0 .i64 .i64 5 5 (by omega) (by omega) (by rw [hz1]; decide) (by rw [hz2]; decide) (by decide)
  rw [h, hz1]
  exact congrArg (fun x => Result.ok (Value.slice (some ⟨w.heap.size, 0, none⟩) 5 5) (w.alloc (.cells x 53))) made5
theorem setK (k : Nat) (h : k < 5) : (instCs (insK k)).toArray.setIfInBounds (k * 9) (.int .i64 10) = (instCs (insK (k + 1))).toArray := by
  rcases (by omega : k = 0 ∨ k = 1 ∨ k = 2 ∨ k = 3 ∨ k = 4) with rfl | rfl | rfl | rfl | rfl <;> rfl
theorem getK (k : Nat) (h : k < 5) : (instCs (insK k)).toArray[k * 9]? = some (.int .i64 0) := by
  rcases (by omega : k = 0 ∨ k = 1 ∨ k = 2 ∨ k = 3 ∨ k = 4) with rfl | rfl | rfl | rfl | rfl <;> rfl
theorem st9K (w : World) (S2 : Nat) (kd op tg : Int) (X : w.heap[S2]? = some (.cells (instCs (insK 5)).toArray 53 (0, 0))) :
    ((((((((((w).setCell ⟨S2, 9, none⟩ (.int .i64 kd)).setCell ⟨S2, 10, none⟩ (.int .i64 op)).setCell ⟨S2, 11, none⟩ (.int .i64 0)).setCell ⟨S2, 12, none⟩ (.bool false)).setCell ⟨S2, 13, none⟩ (.int .i64 0)).setCell ⟨S2, 14, none⟩ (.bool false)).setCell ⟨S2, 15, none⟩ (.int .i64 0)).setCell ⟨S2, 16, none⟩ (.string ⟨#[]⟩)).setCell ⟨S2, 17, none⟩ (.int .i64 tg)).heap[S2]? = some (.cells (instCs (ilK ⟨kd, op, 0, false, 0, false, 0, ⟨#[]⟩, tg⟩)).toArray 53 (0, 0)) ∧ (∀ g x, S2 ≠ g → w.heap[g]? = x → ((((((((((w).setCell ⟨S2, 9, none⟩ (.int .i64 kd)).setCell ⟨S2, 10, none⟩ (.int .i64 op)).setCell ⟨S2, 11, none⟩ (.int .i64 0)).setCell ⟨S2, 12, none⟩ (.bool false)).setCell ⟨S2, 13, none⟩ (.int .i64 0)).setCell ⟨S2, 14, none⟩ (.bool false)).setCell ⟨S2, 15, none⟩ (.int .i64 0)).setCell ⟨S2, 16, none⟩ (.string ⟨#[]⟩)).setCell ⟨S2, 17, none⟩ (.int .i64 tg)).heap[g]? = x) ∧ (∀ w0 : World, w0.heap.size ≤ S2 → Below w0.heap.size w0 w → Below w0.heap.size w0 ((((((((((w).setCell ⟨S2, 9, none⟩ (.int .i64 kd)).setCell ⟨S2, 10, none⟩ (.int .i64 op)).setCell ⟨S2, 11, none⟩ (.int .i64 0)).setCell ⟨S2, 12, none⟩ (.bool false)).setCell ⟨S2, 13, none⟩ (.int .i64 0)).setCell ⟨S2, 14, none⟩ (.bool false)).setCell ⟨S2, 15, none⟩ (.int .i64 0)).setCell ⟨S2, 16, none⟩ (.string ⟨#[]⟩)).setCell ⟨S2, 17, none⟩ (.int .i64 tg))) := by
  refine ⟨?_, fun g x hg hx => ?_, fun w0 hs hb => ?_⟩
  · have x9 := heap_setCell_same (w) S2 9 _ _ (.int .i64 kd) X
    have x10 := heap_setCell_same ((w).setCell ⟨S2, 9, none⟩ (.int .i64 kd)) S2 10 _ _ (.int .i64 op) x9
    have x11 := heap_setCell_same (((w).setCell ⟨S2, 9, none⟩ (.int .i64 kd)).setCell ⟨S2, 10, none⟩ (.int .i64 op)) S2 11 _ _ (.int .i64 0) x10
    have x12 := heap_setCell_same ((((w).setCell ⟨S2, 9, none⟩ (.int .i64 kd)).setCell ⟨S2, 10, none⟩ (.int .i64 op)).setCell ⟨S2, 11, none⟩ (.int .i64 0)) S2 12 _ _ (.bool false) x11
    have x13 := heap_setCell_same (((((w).setCell ⟨S2, 9, none⟩ (.int .i64 kd)).setCell ⟨S2, 10, none⟩ (.int .i64 op)).setCell ⟨S2, 11, none⟩ (.int .i64 0)).setCell ⟨S2, 12, none⟩ (.bool false)) S2 13 _ _ (.int .i64 0) x12
    have x14 := heap_setCell_same ((((((w).setCell ⟨S2, 9, none⟩ (.int .i64 kd)).setCell ⟨S2, 10, none⟩ (.int .i64 op)).setCell ⟨S2, 11, none⟩ (.int .i64 0)).setCell ⟨S2, 12, none⟩ (.bool false)).setCell ⟨S2, 13, none⟩ (.int .i64 0)) S2 14 _ _ (.bool false) x13
    have x15 := heap_setCell_same (((((((w).setCell ⟨S2, 9, none⟩ (.int .i64 kd)).setCell ⟨S2, 10, none⟩ (.int .i64 op)).setCell ⟨S2, 11, none⟩ (.int .i64 0)).setCell ⟨S2, 12, none⟩ (.bool false)).setCell ⟨S2, 13, none⟩ (.int .i64 0)).setCell ⟨S2, 14, none⟩ (.bool false)) S2 15 _ _ (.int .i64 0) x14
    have x16 := heap_setCell_same ((((((((w).setCell ⟨S2, 9, none⟩ (.int .i64 kd)).setCell ⟨S2, 10, none⟩ (.int .i64 op)).setCell ⟨S2, 11, none⟩ (.int .i64 0)).setCell ⟨S2, 12, none⟩ (.bool false)).setCell ⟨S2, 13, none⟩ (.int .i64 0)).setCell ⟨S2, 14, none⟩ (.bool false)).setCell ⟨S2, 15, none⟩ (.int .i64 0)) S2 16 _ _ (.string ⟨#[]⟩) x15
    have x17 := heap_setCell_same (((((((((w).setCell ⟨S2, 9, none⟩ (.int .i64 kd)).setCell ⟨S2, 10, none⟩ (.int .i64 op)).setCell ⟨S2, 11, none⟩ (.int .i64 0)).setCell ⟨S2, 12, none⟩ (.bool false)).setCell ⟨S2, 13, none⟩ (.int .i64 0)).setCell ⟨S2, 14, none⟩ (.bool false)).setCell ⟨S2, 15, none⟩ (.int .i64 0)).setCell ⟨S2, 16, none⟩ (.string ⟨#[]⟩)) S2 17 _ _ (.int .i64 tg) x16
    exact x17.trans (congrArg (fun a => some (Obj.cells a 53 (0, 0))) (by kernel_rfl))
  · iterate 9 refine heap_set_far ?_ (by exact hg)
    exact hx
  · iterate 9 refine Below.setCell ?_ (by exact hs) _
    exact hb
theorem eight {w : World} {b o : Nat} {a0 a1 a2 a3 a4 a5 a6 a7 : Value} (h0 : w.cell? ⟨b, o, none⟩ = some a0) (h1 : w.cell? ⟨b, o + 1, none⟩ = some a1) (h2 : w.cell? ⟨b, o + 2, none⟩ = some a2) (h3 : w.cell? ⟨b, o + 3, none⟩ = some a3) (h4 : w.cell? ⟨b, o + 4, none⟩ = some a4) (h5 : w.cell? ⟨b, o + 5, none⟩ = some a5) (h6 : w.cell? ⟨b, o + 6, none⟩ = some a6) (h7 : w.cell? ⟨b, o + 7, none⟩ = some a7) : CellsAt w b o [a0, a1, a2, a3, a4, a5, a6, a7] := fun j u hu => by
  match j, hu with
  | 0, hu => cases hu; exact h0
  | 1, hu => cases hu; exact h1
  | 2, hu => cases hu; exact h2
  | 3, hu => cases hu; exact h3
  | 4, hu => cases hu; exact h4
  | 5, hu => cases hu; exact h5
  | 6, hu => cases hu; exact h6
  | 7, hu => cases hu; exact h7
  | n + 8, hu => simp at hu
set_option maxRecDepth 100000 in
set_option maxHeartbeats 2000000 in
theorem fkinds_walk (which : Int) (full : Bool) (w : World) : Calls Try.prog 9 #[.int .i64 which, .bool full] w (SaysTrue w) := by
  have HBG : Kept (∀ w1, Calls Try.prog 36 #[.agg #[.int .i64 0, .int .i64 0, .int .i64 0, .int .i64 0, .slice none 0 0, .slice none 0 0, .int .i64 1]] w1 fun en w' => en = .returned (.agg #[.int .i64 0, .int .i64 0, .int .i64 0, .int .i64 0, .slice none 0 0, .slice none 0 0, .int .i64 1, .slice none 0 0, .slice none 0 0, .int .i64 0]) ∧ Below w1.heap.size w1 w') := ⟨fun w1 => begin_ref ⟨0, 0, 0, 0, ⟨none, 0, 0⟩, ⟨none, 0, 0⟩, 1⟩ w1⟩
  obtain ⟨M, hM, hM0, hM1⟩ := mask255 which
  obtain ⟨K, hK, hK1⟩ : ∃ K : Nat, M % 11 = K ∧ K < 11 := ⟨(M % 11).toNat, by omega, by omega⟩
  have hK2 : M.tmod 11 = (K : Int) := by rw [Int.tmod_eq_emod_of_nonneg hM0]; exact hK
  obtain ⟨kd, op, tg, n, mm, nx, rs, ot, dn, htab, hra, hrb⟩ := tabK_at K hK1
  have HRA := Kept.mk hra
  have HRB := Kept.mk hrb
  clear hra hrb
  go_enter Try.func9, Try.ntmps9
  go_upto_region 2 with (fail)
  have XT := heap_alloc_new w (.cells #[.int .i64 1, .int .i64 1, .int .i64 0, .bool false, .int .i64 0, .bool false, .int .i64 0, .string ⟨#[]⟩, .int .i64 0, .int .i64 1, .int .i64 1, .int .i64 2, .bool false, .int .i64 0, .int .i64 2, .int .i64 2, .int .i64 0, .int .i64 0, .bool false, .int .i64 0, .bool false, .int .i64 0, .string ⟨#[]⟩, .int .i64 0, .int .i64 1, .int .i64 1, .int .i64 2, .bool false, .int .i64 0, .int .i64 2, .int .i64 3, .int .i64 0, .int .i64 0, .bool false, .int .i64 0, .bool false, .int .i64 0, .string ⟨#[]⟩, .int .i64 0, .int .i64 1, .int .i64 1, .int .i64 2, .bool false, .int .i64 0, .int .i64 2, .int .i64 4, .int .i64 0, .int .i64 0, .bool false, .int .i64 0, .bool false, .int .i64 0, .string ⟨#[]⟩, .int .i64 0, .int .i64 1, .int .i64 1, .int .i64 2, .bool false, .int .i64 0, .int .i64 2, .int .i64 10, .int .i64 0, .int .i64 0, .bool false, .int .i64 0, .bool false, .int .i64 0, .string ⟨#[]⟩, .int .i64 0, .int .i64 1, .int .i64 1, .int .i64 2, .bool false, .int .i64 0, .int .i64 2, .int .i64 5, .int .i64 1, .int .i64 0, .bool false, .int .i64 0, .bool false, .int .i64 0, .string ⟨#[]⟩, .int .i64 4, .int .i64 2, .int .i64 2, .int .i64 4, .bool false, .int .i64 0, .int .i64 2, .int .i64 6, .int .i64 0, .int .i64 0, .bool false, .int .i64 0, .bool false, .int .i64 0, .string ⟨#[]⟩, .int .i64 4, .int .i64 1, .int .i64 1, .int .i64 4, .bool true, .int .i64 0, .int .i64 2, .int .i64 7, .int .i64 0, .int .i64 0, .bool false, .int .i64 0, .bool false, .int .i64 0, .string ⟨#[]⟩, .int .i64 0, .int .i64 6, .int .i64 6, .int .i64 5, .bool false, .int .i64 0, .int .i64 2, .int .i64 8, .int .i64 0, .int .i64 0, .bool false, .int .i64 0, .bool false, .int .i64 0, .string ⟨#[]⟩, .int .i64 3, .int .i64 1, .int .i64 1, .int .i64 3, .bool true, .int .i64 1, .int .i64 2, .int .i64 9, .int .i64 0, .int .i64 0, .bool false, .int .i64 0, .bool false, .int .i64 0, .string ⟨#[]⟩, .int .i64 0, .int .i64 6, .int .i64 1, .int .i64 5, .bool false, .int .i64 0, .int .i64 1, .int .i64 11, .int .i64 0, .int .i64 0, .bool false, .int .i64 0, .bool false, .int .i64 0, .string ⟨#[]⟩, .int .i64 0, .int .i64 1, .int .i64 1, .int .i64 (-1), .bool true, .int .i64 0, .int .i64 2] 78)
  have W2 := Kept.mk (below_alloc_self w (.cells #[.int .i64 1, .int .i64 1, .int .i64 0, .bool false, .int .i64 0, .bool false, .int .i64 0, .string ⟨#[]⟩, .int .i64 0, .int .i64 1, .int .i64 1, .int .i64 2, .bool false, .int .i64 0, .int .i64 2, .int .i64 2, .int .i64 0, .int .i64 0, .bool false, .int .i64 0, .bool false, .int .i64 0, .string ⟨#[]⟩, .int .i64 0, .int .i64 1, .int .i64 1, .int .i64 2, .bool false, .int .i64 0, .int .i64 2, .int .i64 3, .int .i64 0, .int .i64 0, .bool false, .int .i64 0, .bool false, .int .i64 0, .string ⟨#[]⟩, .int .i64 0, .int .i64 1, .int .i64 1, .int .i64 2, .bool false, .int .i64 0, .int .i64 2, .int .i64 4, .int .i64 0, .int .i64 0, .bool false, .int .i64 0, .bool false, .int .i64 0, .string ⟨#[]⟩, .int .i64 0, .int .i64 1, .int .i64 1, .int .i64 2, .bool false, .int .i64 0, .int .i64 2, .int .i64 10, .int .i64 0, .int .i64 0, .bool false, .int .i64 0, .bool false, .int .i64 0, .string ⟨#[]⟩, .int .i64 0, .int .i64 1, .int .i64 1, .int .i64 2, .bool false, .int .i64 0, .int .i64 2, .int .i64 5, .int .i64 1, .int .i64 0, .bool false, .int .i64 0, .bool false, .int .i64 0, .string ⟨#[]⟩, .int .i64 4, .int .i64 2, .int .i64 2, .int .i64 4, .bool false, .int .i64 0, .int .i64 2, .int .i64 6, .int .i64 0, .int .i64 0, .bool false, .int .i64 0, .bool false, .int .i64 0, .string ⟨#[]⟩, .int .i64 4, .int .i64 1, .int .i64 1, .int .i64 4, .bool true, .int .i64 0, .int .i64 2, .int .i64 7, .int .i64 0, .int .i64 0, .bool false, .int .i64 0, .bool false, .int .i64 0, .string ⟨#[]⟩, .int .i64 0, .int .i64 6, .int .i64 6, .int .i64 5, .bool false, .int .i64 0, .int .i64 2, .int .i64 8, .int .i64 0, .int .i64 0, .bool false, .int .i64 0, .bool false, .int .i64 0, .string ⟨#[]⟩, .int .i64 3, .int .i64 1, .int .i64 1, .int .i64 3, .bool true, .int .i64 1, .int .i64 2, .int .i64 9, .int .i64 0, .int .i64 0, .bool false, .int .i64 0, .bool false, .int .i64 0, .string ⟨#[]⟩, .int .i64 0, .int .i64 6, .int .i64 1, .int .i64 5, .bool false, .int .i64 0, .int .i64 1, .int .i64 11, .int .i64 0, .int .i64 0, .bool false, .int .i64 0, .bool false, .int .i64 0, .string ⟨#[]⟩, .int .i64 0, .int .i64 1, .int .i64 1, .int .i64 (-1), .bool true, .int .i64 0, .int .i64 2] 78))
  generalize w.alloc (.cells #[.int .i64 1, .int .i64 1, .int .i64 0, .bool false, .int .i64 0, .bool false, .int .i64 0, .string ⟨#[]⟩, .int .i64 0, .int .i64 1, .int .i64 1, .int .i64 2, .bool false, .int .i64 0, .int .i64 2, .int .i64 2, .int .i64 0, .int .i64 0, .bool false, .int .i64 0, .bool false, .int .i64 0, .string ⟨#[]⟩, .int .i64 0, .int .i64 1, .int .i64 1, .int .i64 2, .bool false, .int .i64 0, .int .i64 2, .int .i64 3, .int .i64 0, .int .i64 0, .bool false, .int .i64 0, .bool false, .int .i64 0, .string ⟨#[]⟩, .int .i64 0, .int .i64 1, .int .i64 1, .int .i64 2, .bool false, .int .i64 0, .int .i64 2, .int .i64 4, .int .i64 0, .int .i64 0, .bool false, .int .i64 0, .bool false, .int .i64 0, .string ⟨#[]⟩, .int .i64 0, .int .i64 1, .int .i64 1, .int .i64 2, .bool false, .int .i64 0, .int .i64 2, .int .i64 10, .int .i64 0, .int .i64 0, .bool false, .int .i64 0, .bool false, .int .i64 0, .string ⟨#[]⟩, .int .i64 0, .int .i64 1, .int .i64 1, .int .i64 2, .bool false, .int .i64 0, .int .i64 2, .int .i64 5, .int .i64 1, .int .i64 0, .bool false, .int .i64 0, .bool false, .int .i64 0, .string ⟨#[]⟩, .int .i64 4, .int .i64 2, .int .i64 2, .int .i64 4, .bool false, .int .i64 0, .int .i64 2, .int .i64 6, .int .i64 0, .int .i64 0, .bool false, .int .i64 0, .bool false, .int .i64 0, .string ⟨#[]⟩, .int .i64 4, .int .i64 1, .int .i64 1, .int .i64 4, .bool true, .int .i64 0, .int .i64 2, .int .i64 7, .int .i64 0, .int .i64 0, .bool false, .int .i64 0, .bool false, .int .i64 0, .string ⟨#[]⟩, .int .i64 0, .int .i64 6, .int .i64 6, .int .i64 5, .bool false, .int .i64 0, .int .i64 2, .int .i64 8, .int .i64 0, .int .i64 0, .bool false, .int .i64 0, .bool false, .int .i64 0, .string ⟨#[]⟩, .int .i64 3, .int .i64 1, .int .i64 1, .int .i64 3, .bool true, .int .i64 1, .int .i64 2, .int .i64 9, .int .i64 0, .int .i64 0, .bool false, .int .i64 0, .bool false, .int .i64 0, .string ⟨#[]⟩, .int .i64 0, .int .i64 6, .int .i64 1, .int .i64 5, .bool false, .int .i64 0, .int .i64 1, .int .i64 11, .int .i64 0, .int .i64 0, .bool false, .int .i64 0, .bool false, .int .i64 0, .string ⟨#[]⟩, .int .i64 0, .int .i64 1, .int .i64 1, .int .i64 (-1), .bool true, .int .i64 0, .int .i64 2] 78) = w2 at *
  have YT : ∀ j u, [.int .i64 kd, .int .i64 op, .int .i64 0, .bool false, .int .i64 0, .bool false, .int .i64 0, .string ⟨#[]⟩, .int .i64 tg, .int .i64 n, .int .i64 mm, .int .i64 nx, .bool dn, .int .i64 rs, .int .i64 ot][j]? = some u → w2.cell? ⟨w.heap.size, K * 15 + j, none⟩ = some u := fun j u hu => (cell_of_row w2 w.heap.size (K * 15 + j) _ _ _ XT).trans (by rw [List.getElem?_toArray]; exact htab j u hu)
  have c0 := YT 0 _ rfl
  have c1 := YT 1 _ rfl
  have c2 := YT 2 _ rfl
  have c3 := YT 3 _ rfl
  have c4 := YT 4 _ rfl
  have c5 := YT 5 _ rfl
  have c6 := YT 6 _ rfl
  have c7 := YT 7 _ rfl
  have c8 := YT 8 _ rfl
  have c9 := YT 9 _ rfl
  have c10 := YT 10 _ rfl
  have c11 := YT 11 _ rfl
  have c12 := YT 12 _ rfl
  have c13 := YT 13 _ rfl
  have c14 := YT 14 _ rfl
  simp only [Nat.add_zero] at c0
  clear YT htab XT
  go_upto_region 3 with (fail)
  have bR := below_alloc_self w2 (.cells #[.int .i64 kd, .int .i64 op, .int .i64 0, .bool false, .int .i64 0, .bool false, .int .i64 0, .string ⟨#[]⟩, .int .i64 tg, .int .i64 n, .int .i64 mm, .int .i64 nx, .bool dn, .int .i64 rs, .int .i64 ot] 78)
  have XR := heap_alloc_new w2 (.cells #[.int .i64 kd, .int .i64 op, .int .i64 0, .bool false, .int .i64 0, .bool false, .int .i64 0, .string ⟨#[]⟩, .int .i64 tg, .int .i64 n, .int .i64 mm, .int .i64 nx, .bool dn, .int .i64 rs, .int .i64 ot] 78)
  have W3 := Kept.mk (W2.out.trans (bR.mono W2.out.size))
  clear c0 c1 c2 c3 c4 c5 c6 c7 c8 c9 c10 c11 c12 c13 c14 W2 bR hM hK2
  generalize w2.alloc (.cells #[.int .i64 kd, .int .i64 op, .int .i64 0, .bool false, .int .i64 0, .bool false, .int .i64 0, .string ⟨#[]⟩, .int .i64 tg, .int .i64 n, .int .i64 mm, .int .i64 nx, .bool dn, .int .i64 rs, .int .i64 ot] 78) = w3 at *
  have HS1 : Kept (w2.heap.size < w3.heap.size) := ⟨(Array.getElem?_eq_some_iff.1 XR).1⟩
  obtain ⟨S1, hS1⟩ : ∃ S, w2.heap.size = S := ⟨_, rfl⟩
  rw [hS1] at XR HS1 ⊢
  clear hS1
  have hmk := made_ins w3
  go_upto_region 4 with (fail)
  have bb := (below_alloc_self w3 (.cells (instCs (insK 0)).toArray 53)).alloc (by simp) (.cells #[.int .i64 3, .int .i64 2, .int .i64 0, .int .i64 0, .int .i64 0, .int .i64 0, .int .i64 0, .slice none 0 0, .slice none 0 0, .slice (some ⟨w3.heap.size, 0, none⟩) 5 5] 33)
  have XI := heap_keep (heap_alloc_new w3 (.cells (instCs (insK 0)).toArray 53)) (below_alloc_self _ (.cells #[.int .i64 3, .int .i64 2, .int .i64 0, .int .i64 0, .int .i64 0, .int .i64 0, .int .i64 0, .slice none 0 0, .slice none 0 0, .slice (some ⟨w3.heap.size, 0, none⟩) 5 5] 33))
  have XP := heap_alloc2_new w3 (.cells (instCs (insK 0)).toArray 53) (.cells #[.int .i64 3, .int .i64 2, .int .i64 0, .int .i64 0, .int .i64 0, .int .i64 0, .int .i64 0, .slice none 0 0, .slice none 0 0, .slice (some ⟨w3.heap.size, 0, none⟩) 5 5] 33)
  have XR := heap_keep XR bb
  have W4 := Kept.mk (W3.out.trans (bb.mono W3.out.size))
  have hs1 : S1 < w3.heap.size := HS1.out
  have hs0 : w.heap.size ≤ w3.heap.size := W3.out.size
  clear bb W3 HS1 hmk
  generalize (w3.alloc (.cells (instCs (insK 0)).toArray 53)).alloc (.cells #[.int .i64 3, .int .i64 2, .int .i64 0, .int .i64 0, .int .i64 0, .int .i64 0, .int .i64 0, .slice none 0 0, .slice none 0 0, .slice (some ⟨w3.heap.size, 0, none⟩) 5 5] 33) = w4 at *
  obtain ⟨S2, hS2⟩ : ∃ S, w3.heap.size = S := ⟨_, rfl⟩
  rw [hS2] at XI XP hs1 hs0 ⊢
  clear hS2
  have YP := fun j => cell_of_row w4 (S2 + 1) j _ _ _ XP
  go_wp2_with fail
  clear YP
  go_loopw [55] (fun v wr => ∃ k : Nat, v = .int .i64 ((k : Nat) : Int) ∧ k ≤ 5 ∧ wr.heap[S2]? = some (.cells (instCs (insK k)).toArray 53 (0, 0)) ∧ wr.heap[S2 + 1]? = some (.cells #[.int .i64 3, .int .i64 2, .int .i64 0, .int .i64 0, .int .i64 0, .int .i64 0, .int .i64 0, .slice none 0 0, .slice none 0 0, .slice (some ⟨S2, 0, none⟩) 5 5] 33 (0, 0)) ∧ wr.heap[S1]? = some (.cells #[.int .i64 kd, .int .i64 op, .int .i64 0, .bool false, .int .i64 0, .bool false, .int .i64 0, .string ⟨#[]⟩, .int .i64 tg, .int .i64 n, .int .i64 mm, .int .i64 nx, .bool dn, .int .i64 rs, .int .i64 ot] 78 (0, 0)) ∧ Below w.heap.size w wr) (fun v _ => (5 - intOf v).toNat)
  case atStart => exact ⟨0, rfl, by omega, XI, XP, XR, W4.out⟩
  case round =>
    obtain ⟨k, rfl, hk, XI, XP, XR, hb⟩ := hrel
    have WB := Kept.mk hb
    clear hb
    have YP := fun j => cell_of_row wr (S2 + 1) j _ _ _ XP
    by_cases h5 : k < 5
    · have hq := getK k h5
      have YI := cell_of_row wr S2 (k * 9) _ _ _ XI
      rw [hq] at YI
      have FI := fun j => frozen_of_row wr S2 j _ _ XI
      have hlt : ((k : Nat) : Int) < 5 := by omega
      have hlt1 : 0 ≤ ((k : Nat) : Int) := by omega
      have wk : IntKind.i64.wrap (((k : Nat) : Int) + 1) = ((k + 1 : Nat) : Int) := by rw [IntWalk.i64_in _ (by omega)]; omega
      clear hq
      go_upto_region 8 with (fail)
      have XI : (wr.setCell ⟨S2, k * 9, none⟩ (.int .i64 10)).heap[S2]? = some (.cells (instCs (insK (k + 1))).toArray 53 (0, 0)) := by rw [← setK k h5]; exact heap_setCell_same wr S2 (k * 9) _ _ (.int .i64 10) XI
      have XP := heap_set_far (p := ⟨S2, k * 9, none⟩) (u := .int .i64 10) XP (by show S2 ≠ S2 + 1; omega)
      have XR := heap_set_far (p := ⟨S2, k * 9, none⟩) (u := .int .i64 10) XR (by show S2 ≠ S1; omega)
      have WB := Kept.mk (WB.out.setCell (p := ⟨S2, k * 9, none⟩) (show w.heap.size ≤ S2 from hs0) (.int .i64 10))
      clear YI YP FI
      generalize wr.setCell ⟨S2, k * 9, none⟩ (.int .i64 10) = ws at *
      go_wp2_with fail
      exact ⟨⟨k + 1, rfl, by omega, XI, XP, XR, WB.out⟩, (by show (5 - ((k + 1 : Nat) : Int)).toNat < (5 - ((k : Nat) : Int)).toNat; omega)⟩
    · have h5 : k = 5 := by omega
      subst h5
      clear YP hk
      go_upto_region 9 with (fail)
      have YP := fun j => cell_of_row wr (S2 + 1) j _ _ _ XP
      have YR := fun j => cell_of_row wr S1 j _ _ _ XR
      have i9 : wr.cell? ⟨S2, 9, none⟩ = some (.int .i64 10) := (cell_of_row wr S2 9 _ _ _ XI).trans rfl
      have i10 : wr.cell? ⟨S2, 10, none⟩ = some (.int .i64 0) := (cell_of_row wr S2 10 _ _ _ XI).trans rfl
      have i11 : wr.cell? ⟨S2, 11, none⟩ = some (.int .i64 0) := (cell_of_row wr S2 11 _ _ _ XI).trans rfl
      have i12 : wr.cell? ⟨S2, 12, none⟩ = some (.bool false) := (cell_of_row wr S2 12 _ _ _ XI).trans rfl
      have i13 : wr.cell? ⟨S2, 13, none⟩ = some (.int .i64 0) := (cell_of_row wr S2 13 _ _ _ XI).trans rfl
      have i14 : wr.cell? ⟨S2, 14, none⟩ = some (.bool false) := (cell_of_row wr S2 14 _ _ _ XI).trans rfl
      have i15 : wr.cell? ⟨S2, 15, none⟩ = some (.int .i64 0) := (cell_of_row wr S2 15 _ _ _ XI).trans rfl
      have i16 : wr.cell? ⟨S2, 16, none⟩ = some (.string ⟨#[]⟩) := (cell_of_row wr S2 16 _ _ _ XI).trans rfl
      have i17 : wr.cell? ⟨S2, 17, none⟩ = some (.int .i64 0) := (cell_of_row wr S2 17 _ _ _ XI).trans rfl
      have FI := fun j => frozen_of_row wr S2 j _ _ XI
      go_upto_region 10 with (fail)
      obtain ⟨XI, hfar, hbel⟩ := st9K wr S2 kd op tg XI
      have XP := hfar _ _ (show S2 ≠ S2 + 1 by omega) XP
      have XR := hfar _ _ (show S2 ≠ S1 by omega) XR
      have WB := Kept.mk (hbel w hs0 WB.out)
      clear hfar hbel YP YR i9 i10 i11 i12 i13 i14 i15 i16 i17 FI
      generalize (((((((((wr).setCell ⟨S2, 9, none⟩ (.int .i64 kd)).setCell ⟨S2, 10, none⟩ (.int .i64 op)).setCell ⟨S2, 11, none⟩ (.int .i64 0)).setCell ⟨S2, 12, none⟩ (.bool false)).setCell ⟨S2, 13, none⟩ (.int .i64 0)).setCell ⟨S2, 14, none⟩ (.bool false)).setCell ⟨S2, 15, none⟩ (.int .i64 0)).setCell ⟨S2, 16, none⟩ (.string ⟨#[]⟩)).setCell ⟨S2, 17, none⟩ (.int .i64 tg) = wt at *
      go_wp2_with fail
      refine (HBG.out wt).mono ?_
      rintro enx wu ⟨rfl, bu⟩
      have XI := heap_keep XI bu
      have XP := heap_keep XP bu
      have XR := heap_keep XR bu
      have WB := Kept.mk (WB.out.trans (bu.mono WB.out.size))
      clear bu
      go_upto_region 11 with (fail)
      have bC := below_alloc_self wu (.cells #[.int .i64 0, .int .i64 0, .int .i64 0, .int .i64 0, .slice none 0 0, .slice none 0 0, .int .i64 1, .slice none 0 0, .slice none 0 0, .int .i64 0] 41)
      have XC := heap_alloc_new wu (.cells #[.int .i64 0, .int .i64 0, .int .i64 0, .int .i64 0, .slice none 0 0, .slice none 0 0, .int .i64 1, .slice none 0 0, .slice none 0 0, .int .i64 0] 41)
      have hs5 : S2 + 1 < wu.heap.size := (Array.getElem?_eq_some_iff.1 XP).1
      have XI := heap_keep XI bC
      have XP := heap_keep XP bC
      have XR := heap_keep XR bC
      have WB := Kept.mk (WB.out.trans (bC.mono WB.out.size))
      clear bC
      generalize wu.alloc (.cells #[.int .i64 0, .int .i64 0, .int .i64 0, .int .i64 0, .slice none 0 0, .slice none 0 0, .int .i64 1, .slice none 0 0, .slice none 0 0, .int .i64 0] 41) = wv at *
      obtain ⟨S5, hS5⟩ : ∃ S, wu.heap.size = S := ⟨_, rfl⟩
      rw [hS5] at XC hs5 ⊢
      clear hS5
      have XRK : Kept (∀ w1, Below wv.heap.size wv w1 → CellsAt w1 S1 0 [.int .i64 (kd), .int .i64 (op), .int .i64 (0), .bool false, .int .i64 (0), .bool false, .int .i64 (0), .string ⟨#[]⟩, .int .i64 (tg), .int .i64 (n), .int .i64 (mm), .int .i64 (nx), .bool dn, .int .i64 (rs), .int .i64 (ot)]) := ⟨fun w1 hb => CellsAt.of_block (heap_keep XR hb)⟩
      refine region_tell (wv.heap.size) (G := fun _ => True) (ts := [
          .is (Value.pointer (some ⟨S1, 9, none⟩)),
          .is (Value.int .i64 (n)),
          .is (Value.pointer (some ⟨S1, 11, none⟩)),
          .is (Value.int .i64 (nx)),
          .is (Value.pointer (some ⟨S1, 13, none⟩)),
          .is (Value.int .i64 (rs)),
          .is (Value.int .i64 (n)),
          .is (Value.int .i64 (nx)),
          .is (Value.int .i64 (rs))])
        (fin := []) (cs := []) (by kernel_rfl) rfl (by kernel_rfl) (by kernel_rfl)
        ⟨trivial, trivial, trivial, trivial, trivial, trivial, trivial, trivial, trivial, trivial⟩ (fun _ _ _ _ => trivial) (by simp) (by simp) trivial
        ⟨?_, ?_, ?_, ?_, ?_, ?_, ?_, ?_, ?_, trivial⟩ ?_
      · intro vals w1 hB _ hd
        clear hd
        refine one_value (v := Value.pointer (some ⟨S1, 9, none⟩)) rfl ?_ (post_is rfl)
        kernel_rfl
      · intro vals w1 hB _ hd
        clear hd
        refine one_value (v := Value.int .i64 (n)) rfl ?_ (post_is rfl)
        exact exec_cell rfl (by kernel_rfl) ((XRK.out w1 hB) 9 _ rfl) Try.underlying3 rfl
      · intro vals w1 hB _ hd
        clear hd
        refine one_value (v := Value.pointer (some ⟨S1, 11, none⟩)) rfl ?_ (post_is rfl)
        kernel_rfl
      · intro vals w1 hB _ hd
        clear hd
        refine one_value (v := Value.int .i64 (nx)) rfl ?_ (post_is rfl)
        exact exec_cell rfl (by kernel_rfl) ((XRK.out w1 hB) 11 _ rfl) Try.underlying3 rfl
      · intro vals w1 hB _ hd
        clear hd
        refine one_value (v := Value.pointer (some ⟨S1, 13, none⟩)) rfl ?_ (post_is rfl)
        kernel_rfl
      · intro vals w1 hB _ hd
        clear hd
        refine one_value (v := Value.int .i64 (rs)) rfl ?_ (post_is rfl)
        exact exec_cell rfl (by kernel_rfl) ((XRK.out w1 hB) 13 _ rfl) Try.underlying3 rfl
      · intro vals w1 hB _ hd
        clear hd
        refine one_value (v := Value.int .i64 (n)) rfl ?_ (post_is rfl)
        kernel_rfl
      · intro vals w1 hB _ hd
        clear hd
        refine one_value (v := Value.int .i64 (nx)) rfl ?_ (post_is rfl)
        kernel_rfl
      · intro vals w1 hB _ hd
        clear hd
        refine one_value (v := Value.int .i64 (rs)) rfl ?_ (post_is rfl)
        kernel_rfl
      intro vals wa ba _ hr
      clear hr
      simp only [fillT, Tell.is, Act.put, List.setIfInBounds_toArray, List.set_cons_zero, List.set_cons_succ]
      have XI := heap_keep XI ba
      have XP := heap_keep XP ba
      have XR := heap_keep XR ba
      have XC := heap_keep XC ba
      have WB := Kept.mk (WB.out.trans (ba.mono WB.out.size))
      clear ba XRK
      cases full with
      | false =>
        go_upto_region 17 with (fail)
        have HNI : RdN wa (some ⟨S2, 0, none⟩) (ilK ⟨kd, op, 0, false, 0, false, 0, ⟨#[]⟩, tg⟩) := reads_block (n := 5) (size := 9) XI rfl
        have HC : Kept (CfIs wa ⟨⟨0, 0, 0, 0, ⟨none, 0, 0⟩, ⟨none, 0, 0⟩, 1⟩, ⟨none, 0, 0⟩, ⟨none, 0, 0⟩, 0⟩ (cK false)) := ⟨⟨⟨rfl, rfl, rfl, rfl, RdIs.nil, RdIs.nil, rfl⟩, RdEs.nil, RdIs.nil, rfl⟩⟩
        have HP : Kept (PIs wa (⟨3, 2, 0, 0, 0, 0, 0, .slice none 0 0, .slice none 0 0, some ⟨S2, 0, none⟩, 5, 5⟩ : Prg) (ilK ⟨kd, op, 0, false, 0, false, 0, ⟨#[]⟩, tg⟩)) := ⟨⟨rfl, (show 5 ≤ 1000 by omega), HNI⟩⟩
        have HF := Kept.mk (fun (g : Int) w1 (hb : Below wa.heap.size wa w1) => pfetch_own (⟨3, 2, 0, 0, 0, 0, 0, .slice none 0 0, .slice none 0 0, some ⟨S2, 0, none⟩, 5, 5⟩ : Prg) (ilK ⟨kd, op, 0, false, 0, false, 0, ⟨#[]⟩, tg⟩) ⟨⟨0, 0, 0, 0, ⟨none, 0, 0⟩, ⟨none, 0, 0⟩, 1⟩, ⟨none, 0, 0⟩, ⟨none, 0, 0⟩, 0⟩ (cK false) g w1 (HP.out.past hb) (HC.out.past hb) (by decide) (by decide) (by decide) (by decide) (by decide))
        have HG := Kept.mk (fun w1 (hb : Below wa.heap.size wa w1) => pguesses_any (⟨3, 2, 0, 0, 0, 0, 0, .slice none 0 0, .slice none 0 0, some ⟨S2, 0, none⟩, 5, 5⟩ : Prg) (ilK ⟨kd, op, 0, false, 0, false, 0, ⟨#[]⟩, tg⟩) ⟨⟨0, 0, 0, 0, ⟨none, 0, 0⟩, ⟨none, 0, 0⟩, 1⟩, ⟨none, 0, 0⟩, ⟨none, 0, 0⟩, 0⟩ (cK false) w1 (HP.out.past hb) (HC.out.past hb) (by decide) (by decide))
        have hgn := HRA.out.g
        have hnb := HRA.out.b
        obtain ⟨d, hdq, hdb, hdp, hdr⟩ := HRA.out.q
        have hdz := HRA.out.z
        have hdy := HRA.out.y
        have wn : IntKind.i64.wrap (n - 1) = n - 1 := IntWalk.i64_in _ (by omega)
        have YP := fun j => cell_of_row wa (S2 + 1) j _ _ _ XP
        have YC := fun j => cell_of_row wa S5 j _ _ _ XC
        clear HP HC HNI XI
        go_wp2_with fail
        refine (HF.out (n - 1) wa (Below.refl _ _)).mono ?_
        rintro enx w6 ⟨cy, rfl, hcy, b6⟩
        rw [hdq] at hcy ⊢
        obtain ⟨⟨y0, y1, y2, y3, ⟨ymA, ymN, ymC⟩, ⟨ysA, ysN, ysC⟩, ypc⟩, ⟨ybA, ybN, ybC⟩, ⟨yqA, yqN, yqC⟩, yf⟩ := cy
        have hcy : Cf4 w6 wa.heap.size ⟨⟨y0, y1, y2, y3, ⟨ymA, ymN, ymC⟩, ⟨ysA, ysN, ysC⟩, ypc⟩, ⟨ybA, ybN, ybC⟩, ⟨yqA, yqN, yqC⟩, yf⟩ d := hcy
        obtain rfl : ybN = 1 := by have h := hcy.is.buf.n; simp only at h; rw [hdb] at h; simpa using h
        obtain rfl : nx = ypc := (hcy.is.st.pc.trans hdp).symm
        have hrs : (yqN : Int) = rs := by have h := hcy.is.rsb.n; simp only at h; rw [← hdr, ← h]
        have hrd : RdE w6 ybA [⟨1, 0, 0, -1, nx, dn, false, false⟩] := by rw [← hdb]; exact hcy.is.buf.r
        have XP := heap_keep XP b6
        have XR := heap_keep XR b6
        have XC := heap_keep XC b6
        have WB := Kept.mk (WB.out.trans (b6.mono WB.out.size))
        have HB6 := Kept.mk b6
        clear hcy hdb hdp hdr b6 YP YC
        have YP := fun j => cell_of_row w6 (S2 + 1) j _ _ _ XP
        have YC := fun j => cell_of_row w6 S5 j _ _ _ XC
        go_upto_region 18 with (fail)
        have bY := below_alloc_self w6 (.cells #[.int .i64 y0, .int .i64 y1, .int .i64 y2, .int .i64 y3, .slice ymA ymN ymC, .slice ysA ysN ysC, .int .i64 nx, .slice ybA 1 ybC, .slice yqA yqN yqC, .int .i64 yf] 41)
        have XY := heap_alloc_new w6 (.cells #[.int .i64 y0, .int .i64 y1, .int .i64 y2, .int .i64 y3, .slice ymA ymN ymC, .slice ysA ysN ysC, .int .i64 nx, .slice ybA 1 ybC, .slice yqA yqN yqC, .int .i64 yf] 41)
        have XP := heap_keep XP bY
        have XR := heap_keep XR bY
        have XC := heap_keep XC bY
        have hrd := RdE.past hrd bY
        have WB := Kept.mk (WB.out.trans (bY.mono WB.out.size))
        have HB6 := Kept.mk (HB6.out.trans (bY.mono HB6.out.size))
        clear YP YC bY
        generalize w6.alloc (.cells #[.int .i64 y0, .int .i64 y1, .int .i64 y2, .int .i64 y3, .slice ymA ymN ymC, .slice ysA ysN ysC, .int .i64 nx, .slice ybA 1 ybC, .slice yqA yqN yqC, .int .i64 yf] 41) = w7 at *
        obtain ⟨S7, hS7⟩ : ∃ S, w6.heap.size = S := ⟨_, rfl⟩
        rw [hS7] at XY ⊢
        clear hS7
        have YP := fun j => cell_of_row w7 (S2 + 1) j _ _ _ XP
        have YC := fun j => cell_of_row w7 S5 j _ _ _ XC
        go_wp2_with fail
        refine (HF.out n w7 HB6.out).mono ?_
        rintro enx w8 ⟨cz, rfl, hcz, b8⟩
        rw [hdz]
        obtain ⟨⟨z0, z1, z2, z3, ⟨zmA, zmN, zmC⟩, ⟨zsA, zsN, zsC⟩, zpc⟩, ⟨zbA, zbN, zbC⟩, ⟨zqA, zqN, zqC⟩, zf⟩ := cz
        clear hcz YP YC
        have XP := heap_keep XP b8
        have XR := heap_keep XR b8
        have XC := heap_keep XC b8
        have XY := heap_keep XY b8
        have hrd := RdE.past hrd b8
        have WB := Kept.mk (WB.out.trans (b8.mono WB.out.size))
        have HB6 := Kept.mk (HB6.out.trans (b8.mono HB6.out.size))
        clear b8
        have YP := fun j => cell_of_row w8 (S2 + 1) j _ _ _ XP
        have YC := fun j => cell_of_row w8 S5 j _ _ _ XC
        go_upto_region 19 with (fail)
        have b9 := below_alloc_self w8 (.cells #[.int .i64 z0, .int .i64 z1, .int .i64 z2, .int .i64 z3, .slice zmA zmN zmC, .slice zsA zsN zsC, .int .i64 zpc, .slice zbA zbN zbC, .slice zqA zqN zqC, .int .i64 zf] 41)
        clear YP YC
        have XP := heap_keep XP b9
        have XR := heap_keep XR b9
        have XC := heap_keep XC b9
        have XY := heap_keep XY b9
        have hrd := RdE.past hrd b9
        have WB := Kept.mk (WB.out.trans (b9.mono WB.out.size))
        have HB6 := Kept.mk (HB6.out.trans (b9.mono HB6.out.size))
        clear b9
        generalize w8.alloc (.cells #[.int .i64 z0, .int .i64 z1, .int .i64 z2, .int .i64 z3, .slice zmA zmN zmC, .slice zsA zsN zsC, .int .i64 zpc, .slice zbA zbN zbC, .slice zqA zqN zqC, .int .i64 zf] 41) = w9 at *
        have YP := fun j => cell_of_row w9 (S2 + 1) j _ _ _ XP
        have YC := fun j => cell_of_row w9 S5 j _ _ _ XC
        go_wp2_with fail
        refine (HF.out (-1) w9 HB6.out).mono ?_
        rintro enx w10 ⟨cv, rfl, hcv, b10⟩
        rw [hdy]
        obtain ⟨⟨v0, v1, v2, v3, ⟨vmA, vmN, vmC⟩, ⟨vsA, vsN, vsC⟩, vpc⟩, ⟨vbA, vbN, vbC⟩, ⟨vqA, vqN, vqC⟩, vf⟩ := cv
        clear hcv YP YC
        have XP := heap_keep XP b10
        have XR := heap_keep XR b10
        have XC := heap_keep XC b10
        have XY := heap_keep XY b10
        have hrd := RdE.past hrd b10
        have WB := Kept.mk (WB.out.trans (b10.mono WB.out.size))
        have HB6 := Kept.mk (HB6.out.trans (b10.mono HB6.out.size))
        clear b10
        have YP := fun j => cell_of_row w10 (S2 + 1) j _ _ _ XP
        have YC := fun j => cell_of_row w10 S5 j _ _ _ XC
        go_upto_region 20 with (fail)
        have b11 := below_alloc_self w10 (.cells #[.int .i64 v0, .int .i64 v1, .int .i64 v2, .int .i64 v3, .slice vmA vmN vmC, .slice vsA vsN vsC, .int .i64 vpc, .slice vbA vbN vbC, .slice vqA vqN vqC, .int .i64 vf] 41)
        clear YP YC
        have XP := heap_keep XP b11
        have XR := heap_keep XR b11
        have XC := heap_keep XC b11
        have XY := heap_keep XY b11
        have hrd := RdE.past hrd b11
        have WB := Kept.mk (WB.out.trans (b11.mono WB.out.size))
        have HB6 := Kept.mk (HB6.out.trans (b11.mono HB6.out.size))
        clear b11
        generalize w10.alloc (.cells #[.int .i64 v0, .int .i64 v1, .int .i64 v2, .int .i64 v3, .slice vmA vmN vmC, .slice vsA vsN vsC, .int .i64 vpc, .slice vbA vbN vbC, .slice vqA vqN vqC, .int .i64 vf] 41) = w11 at *
        obtain ⟨pb, po, rfl, hpb, e0, e1, e2, e3, e4, e5, e6, e7⟩ := RdE.at_ hrd (i := 0) (Nat.zero_lt_one)
        refine ki_reg20 w11 S1 S2 (S2 + 1) S5 S7 pb po n nx rs dn kd op tg n mm nx rs ot y0 y1 y2 y3 yf none ymA ysA yqA 0 0 ymN ymC ysN ysC ybC yqN yqC ⟨fun w1 hb => CellsAt.of_block (heap_keep XR hb)⟩ ⟨fun w1 hb => CellsAt.of_block (heap_keep XP hb)⟩ ⟨fun w1 hb => CellsAt.of_block (heap_keep XC hb)⟩ ⟨fun w1 hb => CellsAt.of_block (heap_keep XY hb)⟩ ⟨fun w1 hb => CellsAt.past ?_ hpb hb⟩ ⟨fun w1 hb => ?_⟩ (by simp [hrs]) _ ?_
        · exact eight e0 e1 e2 e3 e4 e5 e6 e7
        · have h := HG.out w1 (HB6.out.trans (hb.mono HB6.out.size)); rw [show guessesOf (⟨3, 2, 0, 0, 0, 0, 0, .slice none 0 0, .slice none 0 0, some ⟨S2, 0, none⟩, 5, 5⟩ : Prg).window (ilK ⟨kd, op, 0, false, 0, false, 0, ⟨#[]⟩, tg⟩) (cK false) = n from hgn] at h; exact h
        · intros
          rename_i w12 b12
          have WB := Kept.mk (WB.out.trans (b12.mono WB.out.size))
          clear XP XR XC XY hrd e0 e1 e2 e3 e4 e5 e6 e7
          go_wp2_with fail
          go_ret
          exact ⟨rfl, WB.out⟩
      | true =>
        have YC := fun j => cell_of_row (wa.alloc (.cells #[.int .i64 3, .int .i64 4] 3)) S5 j _ _ _ (heap_keep XC (below_alloc_self wa (.cells #[.int .i64 3, .int .i64 4] 3)))
        have FC := fun j => frozen_of_row (wa.alloc (.cells #[.int .i64 3, .int .i64 4] 3)) S5 j _ _ (heap_keep XC (below_alloc_self wa (.cells #[.int .i64 3, .int .i64 4] 3)))
        go_upto_region 14 with (fail)
        have bq := below_alloc_self wa (.cells #[.int .i64 3, .int .i64 4] 3)
        have XQ := heap_alloc_new wa (.cells #[.int .i64 3, .int .i64 4] 3)
        have hs6 : S5 < wa.heap.size := (Array.getElem?_eq_some_iff.1 XC).1
        have XI := heap_set_far (p := ⟨S5, 8, none⟩) (u := .slice (some ⟨wa.heap.size, 0, none⟩) 2 2) (heap_keep XI bq) (by show S5 ≠ S2; omega)
        have XP := heap_set_far (p := ⟨S5, 8, none⟩) (u := .slice (some ⟨wa.heap.size, 0, none⟩) 2 2) (heap_keep XP bq) (by show S5 ≠ S2 + 1; omega)
        have XR := heap_set_far (p := ⟨S5, 8, none⟩) (u := .slice (some ⟨wa.heap.size, 0, none⟩) 2 2) (heap_keep XR bq) (by show S5 ≠ S1; omega)
        have XQ := heap_set_far (p := ⟨S5, 8, none⟩) (u := .slice (some ⟨wa.heap.size, 0, none⟩) 2 2) XQ (by show S5 ≠ wa.heap.size; omega)
        have XC : ((wa.alloc (.cells #[.int .i64 3, .int .i64 4] 3)).setCell ⟨S5, 8, none⟩ (.slice (some ⟨wa.heap.size, 0, none⟩) 2 2)).heap[S5]? = some (.cells #[.int .i64 0, .int .i64 0, .int .i64 0, .int .i64 0, .slice none 0 0, .slice none 0 0, .int .i64 1, .slice none 0 0, .slice (some ⟨wa.heap.size, 0, none⟩) 2 2, .int .i64 0] 41 (0, 0)) := heap_setCell_same (wa.alloc (.cells #[.int .i64 3, .int .i64 4] 3)) S5 8 _ _ (.slice (some ⟨wa.heap.size, 0, none⟩) 2 2) (heap_keep XC bq)
        have WB := Kept.mk ((WB.out.trans (bq.mono WB.out.size)).setCell (p := ⟨S5, 8, none⟩) (show w.heap.size ≤ S5 by omega) (.slice (some ⟨wa.heap.size, 0, none⟩) 2 2))
        clear YC FC bq
        generalize (wa.alloc (.cells #[.int .i64 3, .int .i64 4] 3)).setCell ⟨S5, 8, none⟩ (.slice (some ⟨wa.heap.size, 0, none⟩) 2 2) = wx at *
        obtain ⟨SQ, hSQ⟩ : ∃ S, wa.heap.size = S := ⟨_, rfl⟩
        rw [hSQ] at XC XQ ⊢
        clear hSQ
        have XRK : Kept (∀ w1, Below wx.heap.size wx w1 → CellsAt w1 S1 0 [.int .i64 (kd), .int .i64 (op), .int .i64 (0), .bool false, .int .i64 (0), .bool false, .int .i64 (0), .string ⟨#[]⟩, .int .i64 (tg), .int .i64 (n), .int .i64 (mm), .int .i64 (nx), .bool dn, .int .i64 (rs), .int .i64 (ot)]) := ⟨fun w1 hb => CellsAt.of_block (heap_keep XR hb)⟩
        refine region_tell (wx.heap.size) (G := fun _ => True) (ts := [
            .is (Value.pointer (some ⟨S1, 10, none⟩)),
            .is (Value.int .i64 (mm)),
            .is (Value.pointer (some ⟨S1, 14, none⟩)),
            .is (Value.int .i64 (ot)),
            .is (Value.int .i64 (mm)),
            .is (Value.int .i64 (ot))])
          (fin := []) (cs := []) (by kernel_rfl) rfl (by kernel_rfl) (by kernel_rfl)
          ⟨trivial, trivial, trivial, trivial, trivial, trivial, trivial⟩ (fun _ _ _ _ => trivial) (by simp) (by simp) trivial
          ⟨?_, ?_, ?_, ?_, ?_, ?_, trivial⟩ ?_
        · intro vals w1 hB _ hd
          clear hd
          refine one_value (v := Value.pointer (some ⟨S1, 10, none⟩)) rfl ?_ (post_is rfl)
          kernel_rfl
        · intro vals w1 hB _ hd
          clear hd
          refine one_value (v := Value.int .i64 (mm)) rfl ?_ (post_is rfl)
          exact exec_cell rfl (by kernel_rfl) ((XRK.out w1 hB) 10 _ rfl) Try.underlying3 rfl
        · intro vals w1 hB _ hd
          clear hd
          refine one_value (v := Value.pointer (some ⟨S1, 14, none⟩)) rfl ?_ (post_is rfl)
          kernel_rfl
        · intro vals w1 hB _ hd
          clear hd
          refine one_value (v := Value.int .i64 (ot)) rfl ?_ (post_is rfl)
          exact exec_cell rfl (by kernel_rfl) ((XRK.out w1 hB) 14 _ rfl) Try.underlying3 rfl
        · intro vals w1 hB _ hd
          clear hd
          refine one_value (v := Value.int .i64 (mm)) rfl ?_ (post_is rfl)
          kernel_rfl
        · intro vals w1 hB _ hd
          clear hd
          refine one_value (v := Value.int .i64 (ot)) rfl ?_ (post_is rfl)
          kernel_rfl
        intro vals wy by_ _ hr
        clear hr
        simp only [fillT, Tell.is, Act.put, List.setIfInBounds_toArray, List.set_cons_zero, List.set_cons_succ]
        have XI := heap_keep XI by_
        have XP := heap_keep XP by_
        have XR := heap_keep XR by_
        have XC := heap_keep XC by_
        have XQ := heap_keep XQ by_
        have WB := Kept.mk (WB.out.trans (by_.mono WB.out.size))
        have hs7 := by_.size
        clear by_ XRK
        have YR := fun j => cell_of_row wy S1 j _ _ _ XR
        have HNI : RdN wy (some ⟨S2, 0, none⟩) (ilK ⟨kd, op, 0, false, 0, false, 0, ⟨#[]⟩, tg⟩) := reads_block (n := 5) (size := 9) XI rfl
        have HC : Kept (CfIs wy ⟨⟨0, 0, 0, 0, ⟨none, 0, 0⟩, ⟨none, 0, 0⟩, 1⟩, ⟨none, 0, 0⟩, ⟨some ⟨SQ, 0, none⟩, 2, 2⟩, 0⟩ (cK true)) := ⟨⟨⟨rfl, rfl, rfl, rfl, RdIs.nil, RdIs.nil, rfl⟩, RdEs.nil, ⟨rfl, Nat.le_refl _, reads_block (n := 2) (size := 1) XQ rfl⟩, rfl⟩⟩
        by_cases h9 : kd = 9
        · rw [if_pos h9] at HRB
          go_upto_region 17 with (fail)
          have HP : Kept (PIs wy (⟨3, 2, 0, 0, 0, 0, 0, .slice none 0 0, .slice none 0 0, some ⟨S2, 0, none⟩, 5, 5⟩ : Prg) (ilK ⟨kd, op, 0, false, 0, false, 0, ⟨#[]⟩, tg⟩)) := ⟨⟨rfl, (show 5 ≤ 1000 by omega), HNI⟩⟩
          have HF := Kept.mk (fun (g : Int) w1 (hb : Below wy.heap.size wy w1) => pfetch_own (⟨3, 2, 0, 0, 0, 0, 0, .slice none 0 0, .slice none 0 0, some ⟨S2, 0, none⟩, 5, 5⟩ : Prg) (ilK ⟨kd, op, 0, false, 0, false, 0, ⟨#[]⟩, tg⟩) ⟨⟨0, 0, 0, 0, ⟨none, 0, 0⟩, ⟨none, 0, 0⟩, 1⟩, ⟨none, 0, 0⟩, ⟨some ⟨SQ, 0, none⟩, 2, 2⟩, 0⟩ (cK true) g w1 (HP.out.past hb) (HC.out.past hb) (by decide) (by decide) (by decide) (by decide) (by decide))
          have HG := Kept.mk (fun w1 (hb : Below wy.heap.size wy w1) => pguesses_any (⟨3, 2, 0, 0, 0, 0, 0, .slice none 0 0, .slice none 0 0, some ⟨S2, 0, none⟩, 5, 5⟩ : Prg) (ilK ⟨kd, op, 0, false, 0, false, 0, ⟨#[]⟩, tg⟩) ⟨⟨0, 0, 0, 0, ⟨none, 0, 0⟩, ⟨none, 0, 0⟩, 1⟩, ⟨none, 0, 0⟩, ⟨some ⟨SQ, 0, none⟩, 2, 2⟩, 0⟩ (cK true) w1 (HP.out.past hb) (HC.out.past hb) (by decide) (by decide))
          have hgn := HRB.out.g
          have hnb := HRB.out.b
          obtain ⟨d, hdq, hdb, hdp, hdr⟩ := HRB.out.q
          have hdz := HRB.out.z
          have hdy := HRB.out.y
          have wn : IntKind.i64.wrap (mm - 1) = mm - 1 := IntWalk.i64_in _ (by omega)
          have YP := fun j => cell_of_row wy (S2 + 1) j _ _ _ XP
          have YC := fun j => cell_of_row wy S5 j _ _ _ XC
          clear HP HC HNI XI XQ
          go_wp2_with fail
          refine (HF.out (mm - 1) wy (Below.refl _ _)).mono ?_
          rintro enx w6 ⟨cy, rfl, hcy, b6⟩
          rw [hdq] at hcy ⊢
          obtain ⟨⟨y0, y1, y2, y3, ⟨ymA, ymN, ymC⟩, ⟨ysA, ysN, ysC⟩, ypc⟩, ⟨ybA, ybN, ybC⟩, ⟨yqA, yqN, yqC⟩, yf⟩ := cy
          have hcy : Cf4 w6 wy.heap.size ⟨⟨y0, y1, y2, y3, ⟨ymA, ymN, ymC⟩, ⟨ysA, ysN, ysC⟩, ypc⟩, ⟨ybA, ybN, ybC⟩, ⟨yqA, yqN, yqC⟩, yf⟩ d := hcy
          obtain rfl : ybN = 1 := by have h := hcy.is.buf.n; simp only at h; rw [hdb] at h; simpa using h
          obtain rfl : 4 = ypc := (hcy.is.st.pc.trans hdp).symm
          have hrs : (yqN : Int) = ot := by have h := hcy.is.rsb.n; simp only at h; rw [← hdr, ← h]
          have hrd : RdE w6 ybA [⟨1, 0, 0, -1, 4, dn, false, false⟩] := by rw [← hdb]; exact hcy.is.buf.r
          have XP := heap_keep XP b6
          have XR := heap_keep XR b6
          have XC := heap_keep XC b6
          have WB := Kept.mk (WB.out.trans (b6.mono WB.out.size))
          have HB6 := Kept.mk b6
          clear hcy hdb hdp hdr b6 YP YC
          have YP := fun j => cell_of_row w6 (S2 + 1) j _ _ _ XP
          have YC := fun j => cell_of_row w6 S5 j _ _ _ XC
          go_upto_region 18 with (fail)
          have bY := below_alloc_self w6 (.cells #[.int .i64 y0, .int .i64 y1, .int .i64 y2, .int .i64 y3, .slice ymA ymN ymC, .slice ysA ysN ysC, .int .i64 4, .slice ybA 1 ybC, .slice yqA yqN yqC, .int .i64 yf] 41)
          have XY := heap_alloc_new w6 (.cells #[.int .i64 y0, .int .i64 y1, .int .i64 y2, .int .i64 y3, .slice ymA ymN ymC, .slice ysA ysN ysC, .int .i64 4, .slice ybA 1 ybC, .slice yqA yqN yqC, .int .i64 yf] 41)
          have XP := heap_keep XP bY
          have XR := heap_keep XR bY
          have XC := heap_keep XC bY
          have hrd := RdE.past hrd bY
          have WB := Kept.mk (WB.out.trans (bY.mono WB.out.size))
          have HB6 := Kept.mk (HB6.out.trans (bY.mono HB6.out.size))
          clear YP YC bY
          generalize w6.alloc (.cells #[.int .i64 y0, .int .i64 y1, .int .i64 y2, .int .i64 y3, .slice ymA ymN ymC, .slice ysA ysN ysC, .int .i64 4, .slice ybA 1 ybC, .slice yqA yqN yqC, .int .i64 yf] 41) = w7 at *
          obtain ⟨S7, hS7⟩ : ∃ S, w6.heap.size = S := ⟨_, rfl⟩
          rw [hS7] at XY ⊢
          clear hS7
          have YP := fun j => cell_of_row w7 (S2 + 1) j _ _ _ XP
          have YC := fun j => cell_of_row w7 S5 j _ _ _ XC
          go_wp2_with fail
          refine (HF.out mm w7 HB6.out).mono ?_
          rintro enx w8 ⟨cz, rfl, hcz, b8⟩
          rw [hdz]
          obtain ⟨⟨z0, z1, z2, z3, ⟨zmA, zmN, zmC⟩, ⟨zsA, zsN, zsC⟩, zpc⟩, ⟨zbA, zbN, zbC⟩, ⟨zqA, zqN, zqC⟩, zf⟩ := cz
          clear hcz YP YC
          have XP := heap_keep XP b8
          have XR := heap_keep XR b8
          have XC := heap_keep XC b8
          have XY := heap_keep XY b8
          have hrd := RdE.past hrd b8
          have WB := Kept.mk (WB.out.trans (b8.mono WB.out.size))
          have HB6 := Kept.mk (HB6.out.trans (b8.mono HB6.out.size))
          clear b8
          have YP := fun j => cell_of_row w8 (S2 + 1) j _ _ _ XP
          have YC := fun j => cell_of_row w8 S5 j _ _ _ XC
          go_upto_region 19 with (fail)
          have b9 := below_alloc_self w8 (.cells #[.int .i64 z0, .int .i64 z1, .int .i64 z2, .int .i64 z3, .slice zmA zmN zmC, .slice zsA zsN zsC, .int .i64 zpc, .slice zbA zbN zbC, .slice zqA zqN zqC, .int .i64 zf] 41)
          clear YP YC
          have XP := heap_keep XP b9
          have XR := heap_keep XR b9
          have XC := heap_keep XC b9
          have XY := heap_keep XY b9
          have hrd := RdE.past hrd b9
          have WB := Kept.mk (WB.out.trans (b9.mono WB.out.size))
          have HB6 := Kept.mk (HB6.out.trans (b9.mono HB6.out.size))
          clear b9
          generalize w8.alloc (.cells #[.int .i64 z0, .int .i64 z1, .int .i64 z2, .int .i64 z3, .slice zmA zmN zmC, .slice zsA zsN zsC, .int .i64 zpc, .slice zbA zbN zbC, .slice zqA zqN zqC, .int .i64 zf] 41) = w9 at *
          have YP := fun j => cell_of_row w9 (S2 + 1) j _ _ _ XP
          have YC := fun j => cell_of_row w9 S5 j _ _ _ XC
          go_wp2_with fail
          refine (HF.out (-1) w9 HB6.out).mono ?_
          rintro enx w10 ⟨cv, rfl, hcv, b10⟩
          rw [hdy]
          obtain ⟨⟨v0, v1, v2, v3, ⟨vmA, vmN, vmC⟩, ⟨vsA, vsN, vsC⟩, vpc⟩, ⟨vbA, vbN, vbC⟩, ⟨vqA, vqN, vqC⟩, vf⟩ := cv
          clear hcv YP YC
          have XP := heap_keep XP b10
          have XR := heap_keep XR b10
          have XC := heap_keep XC b10
          have XY := heap_keep XY b10
          have hrd := RdE.past hrd b10
          have WB := Kept.mk (WB.out.trans (b10.mono WB.out.size))
          have HB6 := Kept.mk (HB6.out.trans (b10.mono HB6.out.size))
          clear b10
          have YP := fun j => cell_of_row w10 (S2 + 1) j _ _ _ XP
          have YC := fun j => cell_of_row w10 S5 j _ _ _ XC
          go_upto_region 20 with (fail)
          have b11 := below_alloc_self w10 (.cells #[.int .i64 v0, .int .i64 v1, .int .i64 v2, .int .i64 v3, .slice vmA vmN vmC, .slice vsA vsN vsC, .int .i64 vpc, .slice vbA vbN vbC, .slice vqA vqN vqC, .int .i64 vf] 41)
          clear YP YC
          have XP := heap_keep XP b11
          have XR := heap_keep XR b11
          have XC := heap_keep XC b11
          have XY := heap_keep XY b11
          have hrd := RdE.past hrd b11
          have WB := Kept.mk (WB.out.trans (b11.mono WB.out.size))
          have HB6 := Kept.mk (HB6.out.trans (b11.mono HB6.out.size))
          clear b11
          generalize w10.alloc (.cells #[.int .i64 v0, .int .i64 v1, .int .i64 v2, .int .i64 v3, .slice vmA vmN vmC, .slice vsA vsN vsC, .int .i64 vpc, .slice vbA vbN vbC, .slice vqA vqN vqC, .int .i64 vf] 41) = w11 at *
          obtain ⟨pb, po, rfl, hpb, e0, e1, e2, e3, e4, e5, e6, e7⟩ := RdE.at_ hrd (i := 0) (Nat.zero_lt_one)
          refine ki_reg20 w11 S1 S2 (S2 + 1) S5 S7 pb po mm 4 ot dn kd op tg n mm nx rs ot y0 y1 y2 y3 yf (some ⟨SQ, 0, none⟩) ymA ysA yqA 2 2 ymN ymC ysN ysC ybC yqN yqC ⟨fun w1 hb => CellsAt.of_block (heap_keep XR hb)⟩ ⟨fun w1 hb => CellsAt.of_block (heap_keep XP hb)⟩ ⟨fun w1 hb => CellsAt.of_block (heap_keep XC hb)⟩ ⟨fun w1 hb => CellsAt.of_block (heap_keep XY hb)⟩ ⟨fun w1 hb => CellsAt.past ?_ hpb hb⟩ ⟨fun w1 hb => ?_⟩ (by simp [hrs]) _ ?_
          · exact eight e0 e1 e2 e3 e4 e5 e6 e7
          · have h := HG.out w1 (HB6.out.trans (hb.mono HB6.out.size)); rw [show guessesOf (⟨3, 2, 0, 0, 0, 0, 0, .slice none 0 0, .slice none 0 0, some ⟨S2, 0, none⟩, 5, 5⟩ : Prg).window (ilK ⟨kd, op, 0, false, 0, false, 0, ⟨#[]⟩, tg⟩) (cK true) = mm from hgn] at h; exact h
          · intros
            rename_i w12 b12
            have WB := Kept.mk (WB.out.trans (b12.mono WB.out.size))
            clear XP XR XC XY hrd e0 e1 e2 e3 e4 e5 e6 e7
            go_wp2_with fail
            go_ret
            exact ⟨rfl, WB.out⟩
        · rw [if_neg h9] at HRB
          go_upto_region 17 with (fail)
          have HP : Kept (PIs wy (⟨3, 2, 0, 0, 0, 0, 0, .slice none 0 0, .slice none 0 0, some ⟨S2, 0, none⟩, 5, 5⟩ : Prg) (ilK ⟨kd, op, 0, false, 0, false, 0, ⟨#[]⟩, tg⟩)) := ⟨⟨rfl, (show 5 ≤ 1000 by omega), HNI⟩⟩
          have HF := Kept.mk (fun (g : Int) w1 (hb : Below wy.heap.size wy w1) => pfetch_own (⟨3, 2, 0, 0, 0, 0, 0, .slice none 0 0, .slice none 0 0, some ⟨S2, 0, none⟩, 5, 5⟩ : Prg) (ilK ⟨kd, op, 0, false, 0, false, 0, ⟨#[]⟩, tg⟩) ⟨⟨0, 0, 0, 0, ⟨none, 0, 0⟩, ⟨none, 0, 0⟩, 1⟩, ⟨none, 0, 0⟩, ⟨some ⟨SQ, 0, none⟩, 2, 2⟩, 0⟩ (cK true) g w1 (HP.out.past hb) (HC.out.past hb) (by decide) (by decide) (by decide) (by decide) (by decide))
          have HG := Kept.mk (fun w1 (hb : Below wy.heap.size wy w1) => pguesses_any (⟨3, 2, 0, 0, 0, 0, 0, .slice none 0 0, .slice none 0 0, some ⟨S2, 0, none⟩, 5, 5⟩ : Prg) (ilK ⟨kd, op, 0, false, 0, false, 0, ⟨#[]⟩, tg⟩) ⟨⟨0, 0, 0, 0, ⟨none, 0, 0⟩, ⟨none, 0, 0⟩, 1⟩, ⟨none, 0, 0⟩, ⟨some ⟨SQ, 0, none⟩, 2, 2⟩, 0⟩ (cK true) w1 (HP.out.past hb) (HC.out.past hb) (by decide) (by decide))
          have hgn := HRB.out.g
          have hnb := HRB.out.b
          obtain ⟨d, hdq, hdb, hdp, hdr⟩ := HRB.out.q
          have hdz := HRB.out.z
          have hdy := HRB.out.y
          have wn : IntKind.i64.wrap (mm - 1) = mm - 1 := IntWalk.i64_in _ (by omega)
          have YP := fun j => cell_of_row wy (S2 + 1) j _ _ _ XP
          have YC := fun j => cell_of_row wy S5 j _ _ _ XC
          clear HP HC HNI XI XQ
          go_wp2_with fail
          refine (HF.out (mm - 1) wy (Below.refl _ _)).mono ?_
          rintro enx w6 ⟨cy, rfl, hcy, b6⟩
          rw [hdq] at hcy ⊢
          obtain ⟨⟨y0, y1, y2, y3, ⟨ymA, ymN, ymC⟩, ⟨ysA, ysN, ysC⟩, ypc⟩, ⟨ybA, ybN, ybC⟩, ⟨yqA, yqN, yqC⟩, yf⟩ := cy
          have hcy : Cf4 w6 wy.heap.size ⟨⟨y0, y1, y2, y3, ⟨ymA, ymN, ymC⟩, ⟨ysA, ysN, ysC⟩, ypc⟩, ⟨ybA, ybN, ybC⟩, ⟨yqA, yqN, yqC⟩, yf⟩ d := hcy
          obtain rfl : ybN = 1 := by have h := hcy.is.buf.n; simp only at h; rw [hdb] at h; simpa using h
          obtain rfl : nx = ypc := (hcy.is.st.pc.trans hdp).symm
          have hrs : (yqN : Int) = ot := by have h := hcy.is.rsb.n; simp only at h; rw [← hdr, ← h]
          have hrd : RdE w6 ybA [⟨1, 0, 0, -1, nx, dn, false, false⟩] := by rw [← hdb]; exact hcy.is.buf.r
          have XP := heap_keep XP b6
          have XR := heap_keep XR b6
          have XC := heap_keep XC b6
          have WB := Kept.mk (WB.out.trans (b6.mono WB.out.size))
          have HB6 := Kept.mk b6
          clear hcy hdb hdp hdr b6 YP YC
          have YP := fun j => cell_of_row w6 (S2 + 1) j _ _ _ XP
          have YC := fun j => cell_of_row w6 S5 j _ _ _ XC
          go_upto_region 18 with (fail)
          have bY := below_alloc_self w6 (.cells #[.int .i64 y0, .int .i64 y1, .int .i64 y2, .int .i64 y3, .slice ymA ymN ymC, .slice ysA ysN ysC, .int .i64 nx, .slice ybA 1 ybC, .slice yqA yqN yqC, .int .i64 yf] 41)
          have XY := heap_alloc_new w6 (.cells #[.int .i64 y0, .int .i64 y1, .int .i64 y2, .int .i64 y3, .slice ymA ymN ymC, .slice ysA ysN ysC, .int .i64 nx, .slice ybA 1 ybC, .slice yqA yqN yqC, .int .i64 yf] 41)
          have XP := heap_keep XP bY
          have XR := heap_keep XR bY
          have XC := heap_keep XC bY
          have hrd := RdE.past hrd bY
          have WB := Kept.mk (WB.out.trans (bY.mono WB.out.size))
          have HB6 := Kept.mk (HB6.out.trans (bY.mono HB6.out.size))
          clear YP YC bY
          generalize w6.alloc (.cells #[.int .i64 y0, .int .i64 y1, .int .i64 y2, .int .i64 y3, .slice ymA ymN ymC, .slice ysA ysN ysC, .int .i64 nx, .slice ybA 1 ybC, .slice yqA yqN yqC, .int .i64 yf] 41) = w7 at *
          obtain ⟨S7, hS7⟩ : ∃ S, w6.heap.size = S := ⟨_, rfl⟩
          rw [hS7] at XY ⊢
          clear hS7
          have YP := fun j => cell_of_row w7 (S2 + 1) j _ _ _ XP
          have YC := fun j => cell_of_row w7 S5 j _ _ _ XC
          go_wp2_with fail
          refine (HF.out mm w7 HB6.out).mono ?_
          rintro enx w8 ⟨cz, rfl, hcz, b8⟩
          rw [hdz]
          obtain ⟨⟨z0, z1, z2, z3, ⟨zmA, zmN, zmC⟩, ⟨zsA, zsN, zsC⟩, zpc⟩, ⟨zbA, zbN, zbC⟩, ⟨zqA, zqN, zqC⟩, zf⟩ := cz
          clear hcz YP YC
          have XP := heap_keep XP b8
          have XR := heap_keep XR b8
          have XC := heap_keep XC b8
          have XY := heap_keep XY b8
          have hrd := RdE.past hrd b8
          have WB := Kept.mk (WB.out.trans (b8.mono WB.out.size))
          have HB6 := Kept.mk (HB6.out.trans (b8.mono HB6.out.size))
          clear b8
          have YP := fun j => cell_of_row w8 (S2 + 1) j _ _ _ XP
          have YC := fun j => cell_of_row w8 S5 j _ _ _ XC
          go_upto_region 19 with (fail)
          have b9 := below_alloc_self w8 (.cells #[.int .i64 z0, .int .i64 z1, .int .i64 z2, .int .i64 z3, .slice zmA zmN zmC, .slice zsA zsN zsC, .int .i64 zpc, .slice zbA zbN zbC, .slice zqA zqN zqC, .int .i64 zf] 41)
          clear YP YC
          have XP := heap_keep XP b9
          have XR := heap_keep XR b9
          have XC := heap_keep XC b9
          have XY := heap_keep XY b9
          have hrd := RdE.past hrd b9
          have WB := Kept.mk (WB.out.trans (b9.mono WB.out.size))
          have HB6 := Kept.mk (HB6.out.trans (b9.mono HB6.out.size))
          clear b9
          generalize w8.alloc (.cells #[.int .i64 z0, .int .i64 z1, .int .i64 z2, .int .i64 z3, .slice zmA zmN zmC, .slice zsA zsN zsC, .int .i64 zpc, .slice zbA zbN zbC, .slice zqA zqN zqC, .int .i64 zf] 41) = w9 at *
          have YP := fun j => cell_of_row w9 (S2 + 1) j _ _ _ XP
          have YC := fun j => cell_of_row w9 S5 j _ _ _ XC
          go_wp2_with fail
          refine (HF.out (-1) w9 HB6.out).mono ?_
          rintro enx w10 ⟨cv, rfl, hcv, b10⟩
          rw [hdy]
          obtain ⟨⟨v0, v1, v2, v3, ⟨vmA, vmN, vmC⟩, ⟨vsA, vsN, vsC⟩, vpc⟩, ⟨vbA, vbN, vbC⟩, ⟨vqA, vqN, vqC⟩, vf⟩ := cv
          clear hcv YP YC
          have XP := heap_keep XP b10
          have XR := heap_keep XR b10
          have XC := heap_keep XC b10
          have XY := heap_keep XY b10
          have hrd := RdE.past hrd b10
          have WB := Kept.mk (WB.out.trans (b10.mono WB.out.size))
          have HB6 := Kept.mk (HB6.out.trans (b10.mono HB6.out.size))
          clear b10
          have YP := fun j => cell_of_row w10 (S2 + 1) j _ _ _ XP
          have YC := fun j => cell_of_row w10 S5 j _ _ _ XC
          go_upto_region 20 with (fail)
          have b11 := below_alloc_self w10 (.cells #[.int .i64 v0, .int .i64 v1, .int .i64 v2, .int .i64 v3, .slice vmA vmN vmC, .slice vsA vsN vsC, .int .i64 vpc, .slice vbA vbN vbC, .slice vqA vqN vqC, .int .i64 vf] 41)
          clear YP YC
          have XP := heap_keep XP b11
          have XR := heap_keep XR b11
          have XC := heap_keep XC b11
          have XY := heap_keep XY b11
          have hrd := RdE.past hrd b11
          have WB := Kept.mk (WB.out.trans (b11.mono WB.out.size))
          have HB6 := Kept.mk (HB6.out.trans (b11.mono HB6.out.size))
          clear b11
          generalize w10.alloc (.cells #[.int .i64 v0, .int .i64 v1, .int .i64 v2, .int .i64 v3, .slice vmA vmN vmC, .slice vsA vsN vsC, .int .i64 vpc, .slice vbA vbN vbC, .slice vqA vqN vqC, .int .i64 vf] 41) = w11 at *
          obtain ⟨pb, po, rfl, hpb, e0, e1, e2, e3, e4, e5, e6, e7⟩ := RdE.at_ hrd (i := 0) (Nat.zero_lt_one)
          refine ki_reg20 w11 S1 S2 (S2 + 1) S5 S7 pb po mm nx ot dn kd op tg n mm nx rs ot y0 y1 y2 y3 yf (some ⟨SQ, 0, none⟩) ymA ysA yqA 2 2 ymN ymC ysN ysC ybC yqN yqC ⟨fun w1 hb => CellsAt.of_block (heap_keep XR hb)⟩ ⟨fun w1 hb => CellsAt.of_block (heap_keep XP hb)⟩ ⟨fun w1 hb => CellsAt.of_block (heap_keep XC hb)⟩ ⟨fun w1 hb => CellsAt.of_block (heap_keep XY hb)⟩ ⟨fun w1 hb => CellsAt.past ?_ hpb hb⟩ ⟨fun w1 hb => ?_⟩ (by simp [hrs]) _ ?_
          · exact eight e0 e1 e2 e3 e4 e5 e6 e7
          · have h := HG.out w1 (HB6.out.trans (hb.mono HB6.out.size)); rw [show guessesOf (⟨3, 2, 0, 0, 0, 0, 0, .slice none 0 0, .slice none 0 0, some ⟨S2, 0, none⟩, 5, 5⟩ : Prg).window (ilK ⟨kd, op, 0, false, 0, false, 0, ⟨#[]⟩, tg⟩) (cK true) = mm from hgn] at h; exact h
          · intros
            rename_i w12 b12
            have WB := Kept.mk (WB.out.trans (b12.mono WB.out.size))
            clear XP XR XC XY hrd e0 e1 e2 e3 e4 e5 e6 e7
            go_wp2_with fail
            go_ret
            exact ⟨rfl, WB.out⟩
end Go.Proofs.Ytchldbkjapnlcaa
