/- The law RetiWaits: what is not done is not committed. -/
import Derived.Test.YtchldbkjapnlcaaJWtab
import Derived.Test.YtchldbkjapnlcaaJq
import Derived.Test.YtchldbkjapnlcaaJu
import Derived.Test.YtchldbkjapnlcaaJb
import Derived.Test.YtchldbkjapnlcaaJc
set_option linter.unusedVariables false
set_option linter.unusedSimpArgs false
namespace Go.Proofs.Ytchldbkjapnlcaa
open Go.RowKit

set_option maxRecDepth 100000 in
set_option maxHeartbeats 2000000 in
theorem rwaits_walk (which : Int) (w : World) : Calls Try.prog 4 #[.int .i64 which] w (SaysTrue w) := by
  have HAW := Kept.mk awake16
  obtain ⟨M, hM, hM0, hM1⟩ := mask255 which
  obtain ⟨K, hK, hK1⟩ : ∃ K : Nat, M % 12 = K ∧ K < 12 := ⟨(M % 12).toNat, by omega, by omega⟩
  have hK2 : M.tmod 12 = (K : Int) := by rw [Int.tmod_eq_emod_of_nonneg hM0]; exact hK
  obtain ⟨epc, en, ed, ek, ef, ok, htab, hrow⟩ := tabW_at K hK1
  have HR := Kept.mk hrow
  clear hrow
  go_enter Try.func4, Try.ntmps4
  go_upto_region 3 with (fail)
  have bb := (((below_alloc_self w (.cells #[.string ⟨#[109]⟩, .bool false, .int .i64 2] 49)).alloc (by simp) (.cells #[.int .i64 1, .int .i64 1, .int .i64 0, .bool false, .int .i64 0, .bool false, .int .i64 0, .string ⟨#[]⟩, .int .i64 0, .int .i64 3, .int .i64 0, .int .i64 0, .bool false, .int .i64 0, .bool false, .int .i64 0, .string ⟨#[]⟩, .int .i64 0, .int .i64 10, .int .i64 0, .int .i64 0, .bool false, .int .i64 0, .bool false, .int .i64 0, .string ⟨#[]⟩, .int .i64 0, .int .i64 11, .int .i64 0, .int .i64 0, .bool false, .int .i64 0, .bool false, .int .i64 0, .string ⟨#[]⟩, .int .i64 0, .int .i64 2, .int .i64 0, .int .i64 0, .bool false, .int .i64 0, .bool false, .int .i64 0, .string ⟨#[]⟩, .int .i64 0, .int .i64 9, .int .i64 0, .int .i64 0, .bool false, .int .i64 0, .bool false, .int .i64 0, .string ⟨#[]⟩, .int .i64 0] 53)).alloc (by simp; omega) (.cells #[.int .i64 2, .int .i64 2, .int .i64 0, .int .i64 0, .int .i64 0, .int .i64 0, .int .i64 0, .slice (some ⟨w.heap.size, 0, none⟩) 1 1, .slice none 0 0, .slice (some ⟨w.heap.size + 1, 0, none⟩) 6 6] 33)).alloc (by simp; omega) (.cells #[.int .i64 0, .int .i64 0, .int .i64 0, .int .i64 0, .int .i64 0, .bool false, .bool false, .bool false, .bool false, .int .i64 0, .int .i64 0, .int .i64 0, .int .i64 0, .int .i64 0, .int .i64 0, .bool true, .bool false, .bool false, .bool true, .int .i64 0, .int .i64 1, .int .i64 0, .int .i64 0, .int .i64 0, .int .i64 0, .bool true, .bool false, .bool false, .bool false, .int .i64 0, .int .i64 1, .int .i64 0, .int .i64 0, .int .i64 0, .int .i64 0, .bool false, .bool true, .bool false, .bool false, .int .i64 0, .int .i64 1, .int .i64 0, .int .i64 0, .int .i64 0, .int .i64 0, .bool true, .bool true, .bool false, .bool true, .int .i64 0, .int .i64 1, .int .i64 0, .int .i64 0, .int .i64 0, .int .i64 0, .bool true, .bool true, .bool true, .bool true, .int .i64 2, .int .i64 2, .int .i64 0, .int .i64 0, .int .i64 0, .int .i64 0, .bool false, .bool false, .bool false, .bool true, .int .i64 0, .int .i64 3, .int .i64 0, .int .i64 0, .int .i64 0, .int .i64 0, .bool true, .bool false, .bool false, .bool true, .int .i64 1, .int .i64 4, .int .i64 0, .int .i64 0, .int .i64 0, .int .i64 0, .bool true, .bool false, .bool true, .bool true, .int .i64 2, .int .i64 9, .int .i64 0, .int .i64 0, .int .i64 0, .int .i64 0, .bool true, .bool false, .bool false, .bool true, .int .i64 2, .int .i64 5, .int .i64 0, .int .i64 0, .int .i64 0, .int .i64 0, .bool true, .bool false, .bool true, .bool true, .int .i64 2, .int .i64 5, .int .i64 0, .int .i64 0, .int .i64 0, .int .i64 0, .bool true, .bool false, .bool false, .bool true, .int .i64 0] 56)
  have X1 := (heap_keep (heap_keep (heap_at_new (W := (w.alloc (.cells #[.string ⟨#[109]⟩, .bool false, .int .i64 2] 49))) (o := (.cells #[.int .i64 1, .int .i64 1, .int .i64 0, .bool false, .int .i64 0, .bool false, .int .i64 0, .string ⟨#[]⟩, .int .i64 0, .int .i64 3, .int .i64 0, .int .i64 0, .bool false, .int .i64 0, .bool false, .int .i64 0, .string ⟨#[]⟩, .int .i64 0, .int .i64 10, .int .i64 0, .int .i64 0, .bool false, .int .i64 0, .bool false, .int .i64 0, .string ⟨#[]⟩, .int .i64 0, .int .i64 11, .int .i64 0, .int .i64 0, .bool false, .int .i64 0, .bool false, .int .i64 0, .string ⟨#[]⟩, .int .i64 0, .int .i64 2, .int .i64 0, .int .i64 0, .bool false, .int .i64 0, .bool false, .int .i64 0, .string ⟨#[]⟩, .int .i64 0, .int .i64 9, .int .i64 0, .int .i64 0, .bool false, .int .i64 0, .bool false, .int .i64 0, .string ⟨#[]⟩, .int .i64 0] 53)) (g := w.heap.size + 1) (by simp) : ((w.alloc (.cells #[.string ⟨#[109]⟩, .bool false, .int .i64 2] 49)).alloc (.cells #[.int .i64 1, .int .i64 1, .int .i64 0, .bool false, .int .i64 0, .bool false, .int .i64 0, .string ⟨#[]⟩, .int .i64 0, .int .i64 3, .int .i64 0, .int .i64 0, .bool false, .int .i64 0, .bool false, .int .i64 0, .string ⟨#[]⟩, .int .i64 0, .int .i64 10, .int .i64 0, .int .i64 0, .bool false, .int .i64 0, .bool false, .int .i64 0, .string ⟨#[]⟩, .int .i64 0, .int .i64 11, .int .i64 0, .int .i64 0, .bool false, .int .i64 0, .bool false, .int .i64 0, .string ⟨#[]⟩, .int .i64 0, .int .i64 2, .int .i64 0, .int .i64 0, .bool false, .int .i64 0, .bool false, .int .i64 0, .string ⟨#[]⟩, .int .i64 0, .int .i64 9, .int .i64 0, .int .i64 0, .bool false, .int .i64 0, .bool false, .int .i64 0, .string ⟨#[]⟩, .int .i64 0] 53)).heap[w.heap.size + 1]? = some (.cells #[.int .i64 1, .int .i64 1, .int .i64 0, .bool false, .int .i64 0, .bool false, .int .i64 0, .string ⟨#[]⟩, .int .i64 0, .int .i64 3, .int .i64 0, .int .i64 0, .bool false, .int .i64 0, .bool false, .int .i64 0, .string ⟨#[]⟩, .int .i64 0, .int .i64 10, .int .i64 0, .int .i64 0, .bool false, .int .i64 0, .bool false, .int .i64 0, .string ⟨#[]⟩, .int .i64 0, .int .i64 11, .int .i64 0, .int .i64 0, .bool false, .int .i64 0, .bool false, .int .i64 0, .string ⟨#[]⟩, .int .i64 0, .int .i64 2, .int .i64 0, .int .i64 0, .bool false, .int .i64 0, .bool false, .int .i64 0, .string ⟨#[]⟩, .int .i64 0, .int .i64 9, .int .i64 0, .int .i64 0, .bool false, .int .i64 0, .bool false, .int .i64 0, .string ⟨#[]⟩, .int .i64 0] 53)) (below_alloc_self _ (.cells #[.int .i64 2, .int .i64 2, .int .i64 0, .int .i64 0, .int .i64 0, .int .i64 0, .int .i64 0, .slice (some ⟨w.heap.size, 0, none⟩) 1 1, .slice none 0 0, .slice (some ⟨w.heap.size + 1, 0, none⟩) 6 6] 33))) (below_alloc_self _ (.cells #[.int .i64 0, .int .i64 0, .int .i64 0, .int .i64 0, .int .i64 0, .bool false, .bool false, .bool false, .bool false, .int .i64 0, .int .i64 0, .int .i64 0, .int .i64 0, .int .i64 0, .int .i64 0, .bool true, .bool false, .bool false, .bool true, .int .i64 0, .int .i64 1, .int .i64 0, .int .i64 0, .int .i64 0, .int .i64 0, .bool true, .bool false, .bool false, .bool false, .int .i64 0, .int .i64 1, .int .i64 0, .int .i64 0, .int .i64 0, .int .i64 0, .bool false, .bool true, .bool false, .bool false, .int .i64 0, .int .i64 1, .int .i64 0, .int .i64 0, .int .i64 0, .int .i64 0, .bool true, .bool true, .bool false, .bool true, .int .i64 0, .int .i64 1, .int .i64 0, .int .i64 0, .int .i64 0, .int .i64 0, .bool true, .bool true, .bool true, .bool true, .int .i64 2, .int .i64 2, .int .i64 0, .int .i64 0, .int .i64 0, .int .i64 0, .bool false, .bool false, .bool false, .bool true, .int .i64 0, .int .i64 3, .int .i64 0, .int .i64 0, .int .i64 0, .int .i64 0, .bool true, .bool false, .bool false, .bool true, .int .i64 1, .int .i64 4, .int .i64 0, .int .i64 0, .int .i64 0, .int .i64 0, .bool true, .bool false, .bool true, .bool true, .int .i64 2, .int .i64 9, .int .i64 0, .int .i64 0, .int .i64 0, .int .i64 0, .bool true, .bool false, .bool false, .bool true, .int .i64 2, .int .i64 5, .int .i64 0, .int .i64 0, .int .i64 0, .int .i64 0, .bool true, .bool false, .bool true, .bool true, .int .i64 2, .int .i64 5, .int .i64 0, .int .i64 0, .int .i64 0, .int .i64 0, .bool true, .bool false, .bool false, .bool true, .int .i64 0] 56)))
  have XP := (heap_keep (heap_at_new (W := ((w.alloc (.cells #[.string ⟨#[109]⟩, .bool false, .int .i64 2] 49)).alloc (.cells #[.int .i64 1, .int .i64 1, .int .i64 0, .bool false, .int .i64 0, .bool false, .int .i64 0, .string ⟨#[]⟩, .int .i64 0, .int .i64 3, .int .i64 0, .int .i64 0, .bool false, .int .i64 0, .bool false, .int .i64 0, .string ⟨#[]⟩, .int .i64 0, .int .i64 10, .int .i64 0, .int .i64 0, .bool false, .int .i64 0, .bool false, .int .i64 0, .string ⟨#[]⟩, .int .i64 0, .int .i64 11, .int .i64 0, .int .i64 0, .bool false, .int .i64 0, .bool false, .int .i64 0, .string ⟨#[]⟩, .int .i64 0, .int .i64 2, .int .i64 0, .int .i64 0, .bool false, .int .i64 0, .bool false, .int .i64 0, .string ⟨#[]⟩, .int .i64 0, .int .i64 9, .int .i64 0, .int .i64 0, .bool false, .int .i64 0, .bool false, .int .i64 0, .string ⟨#[]⟩, .int .i64 0] 53))) (o := (.cells #[.int .i64 2, .int .i64 2, .int .i64 0, .int .i64 0, .int .i64 0, .int .i64 0, .int .i64 0, .slice (some ⟨w.heap.size, 0, none⟩) 1 1, .slice none 0 0, .slice (some ⟨w.heap.size + 1, 0, none⟩) 6 6] 33)) (g := w.heap.size + 2) (by simp) : (((w.alloc (.cells #[.string ⟨#[109]⟩, .bool false, .int .i64 2] 49)).alloc (.cells #[.int .i64 1, .int .i64 1, .int .i64 0, .bool false, .int .i64 0, .bool false, .int .i64 0, .string ⟨#[]⟩, .int .i64 0, .int .i64 3, .int .i64 0, .int .i64 0, .bool false, .int .i64 0, .bool false, .int .i64 0, .string ⟨#[]⟩, .int .i64 0, .int .i64 10, .int .i64 0, .int .i64 0, .bool false, .int .i64 0, .bool false, .int .i64 0, .string ⟨#[]⟩, .int .i64 0, .int .i64 11, .int .i64 0, .int .i64 0, .bool false, .int .i64 0, .bool false, .int .i64 0, .string ⟨#[]⟩, .int .i64 0, .int .i64 2, .int .i64 0, .int .i64 0, .bool false, .int .i64 0, .bool false, .int .i64 0, .string ⟨#[]⟩, .int .i64 0, .int .i64 9, .int .i64 0, .int .i64 0, .bool false, .int .i64 0, .bool false, .int .i64 0, .string ⟨#[]⟩, .int .i64 0] 53)).alloc (.cells #[.int .i64 2, .int .i64 2, .int .i64 0, .int .i64 0, .int .i64 0, .int .i64 0, .int .i64 0, .slice (some ⟨w.heap.size, 0, none⟩) 1 1, .slice none 0 0, .slice (some ⟨w.heap.size + 1, 0, none⟩) 6 6] 33)).heap[w.heap.size + 2]? = some (.cells #[.int .i64 2, .int .i64 2, .int .i64 0, .int .i64 0, .int .i64 0, .int .i64 0, .int .i64 0, .slice (some ⟨w.heap.size, 0, none⟩) 1 1, .slice none 0 0, .slice (some ⟨w.heap.size + 1, 0, none⟩) 6 6] 33)) (below_alloc_self _ (.cells #[.int .i64 0, .int .i64 0, .int .i64 0, .int .i64 0, .int .i64 0, .bool false, .bool false, .bool false, .bool false, .int .i64 0, .int .i64 0, .int .i64 0, .int .i64 0, .int .i64 0, .int .i64 0, .bool true, .bool false, .bool false, .bool true, .int .i64 0, .int .i64 1, .int .i64 0, .int .i64 0, .int .i64 0, .int .i64 0, .bool true, .bool false, .bool false, .bool false, .int .i64 0, .int .i64 1, .int .i64 0, .int .i64 0, .int .i64 0, .int .i64 0, .bool false, .bool true, .bool false, .bool false, .int .i64 0, .int .i64 1, .int .i64 0, .int .i64 0, .int .i64 0, .int .i64 0, .bool true, .bool true, .bool false, .bool true, .int .i64 0, .int .i64 1, .int .i64 0, .int .i64 0, .int .i64 0, .int .i64 0, .bool true, .bool true, .bool true, .bool true, .int .i64 2, .int .i64 2, .int .i64 0, .int .i64 0, .int .i64 0, .int .i64 0, .bool false, .bool false, .bool false, .bool true, .int .i64 0, .int .i64 3, .int .i64 0, .int .i64 0, .int .i64 0, .int .i64 0, .bool true, .bool false, .bool false, .bool true, .int .i64 1, .int .i64 4, .int .i64 0, .int .i64 0, .int .i64 0, .int .i64 0, .bool true, .bool false, .bool true, .bool true, .int .i64 2, .int .i64 9, .int .i64 0, .int .i64 0, .int .i64 0, .int .i64 0, .bool true, .bool false, .bool false, .bool true, .int .i64 2, .int .i64 5, .int .i64 0, .int .i64 0, .int .i64 0, .int .i64 0, .bool true, .bool false, .bool true, .bool true, .int .i64 2, .int .i64 5, .int .i64 0, .int .i64 0, .int .i64 0, .int .i64 0, .bool true, .bool false, .bool false, .bool true, .int .i64 0] 56)))
  have XT := (heap_at_new (W := (((w.alloc (.cells #[.string ⟨#[109]⟩, .bool false, .int .i64 2] 49)).alloc (.cells #[.int .i64 1, .int .i64 1, .int .i64 0, .bool false, .int .i64 0, .bool false, .int .i64 0, .string ⟨#[]⟩, .int .i64 0, .int .i64 3, .int .i64 0, .int .i64 0, .bool false, .int .i64 0, .bool false, .int .i64 0, .string ⟨#[]⟩, .int .i64 0, .int .i64 10, .int .i64 0, .int .i64 0, .bool false, .int .i64 0, .bool false, .int .i64 0, .string ⟨#[]⟩, .int .i64 0, .int .i64 11, .int .i64 0, .int .i64 0, .bool false, .int .i64 0, .bool false, .int .i64 0, .string ⟨#[]⟩, .int .i64 0, .int .i64 2, .int .i64 0, .int .i64 0, .bool false, .int .i64 0, .bool false, .int .i64 0, .string ⟨#[]⟩, .int .i64 0, .int .i64 9, .int .i64 0, .int .i64 0, .bool false, .int .i64 0, .bool false, .int .i64 0, .string ⟨#[]⟩, .int .i64 0] 53)).alloc (.cells #[.int .i64 2, .int .i64 2, .int .i64 0, .int .i64 0, .int .i64 0, .int .i64 0, .int .i64 0, .slice (some ⟨w.heap.size, 0, none⟩) 1 1, .slice none 0 0, .slice (some ⟨w.heap.size + 1, 0, none⟩) 6 6] 33))) (o := (.cells #[.int .i64 0, .int .i64 0, .int .i64 0, .int .i64 0, .int .i64 0, .bool false, .bool false, .bool false, .bool false, .int .i64 0, .int .i64 0, .int .i64 0, .int .i64 0, .int .i64 0, .int .i64 0, .bool true, .bool false, .bool false, .bool true, .int .i64 0, .int .i64 1, .int .i64 0, .int .i64 0, .int .i64 0, .int .i64 0, .bool true, .bool false, .bool false, .bool false, .int .i64 0, .int .i64 1, .int .i64 0, .int .i64 0, .int .i64 0, .int .i64 0, .bool false, .bool true, .bool false, .bool false, .int .i64 0, .int .i64 1, .int .i64 0, .int .i64 0, .int .i64 0, .int .i64 0, .bool true, .bool true, .bool false, .bool true, .int .i64 0, .int .i64 1, .int .i64 0, .int .i64 0, .int .i64 0, .int .i64 0, .bool true, .bool true, .bool true, .bool true, .int .i64 2, .int .i64 2, .int .i64 0, .int .i64 0, .int .i64 0, .int .i64 0, .bool false, .bool false, .bool false, .bool true, .int .i64 0, .int .i64 3, .int .i64 0, .int .i64 0, .int .i64 0, .int .i64 0, .bool true, .bool false, .bool false, .bool true, .int .i64 1, .int .i64 4, .int .i64 0, .int .i64 0, .int .i64 0, .int .i64 0, .bool true, .bool false, .bool true, .bool true, .int .i64 2, .int .i64 9, .int .i64 0, .int .i64 0, .int .i64 0, .int .i64 0, .bool true, .bool false, .bool false, .bool true, .int .i64 2, .int .i64 5, .int .i64 0, .int .i64 0, .int .i64 0, .int .i64 0, .bool true, .bool false, .bool true, .bool true, .int .i64 2, .int .i64 5, .int .i64 0, .int .i64 0, .int .i64 0, .int .i64 0, .bool true, .bool false, .bool false, .bool true, .int .i64 0] 56)) (g := w.heap.size + 3) (by simp) : ((((w.alloc (.cells #[.string ⟨#[109]⟩, .bool false, .int .i64 2] 49)).alloc (.cells #[.int .i64 1, .int .i64 1, .int .i64 0, .bool false, .int .i64 0, .bool false, .int .i64 0, .string ⟨#[]⟩, .int .i64 0, .int .i64 3, .int .i64 0, .int .i64 0, .bool false, .int .i64 0, .bool false, .int .i64 0, .string ⟨#[]⟩, .int .i64 0, .int .i64 10, .int .i64 0, .int .i64 0, .bool false, .int .i64 0, .bool false, .int .i64 0, .string ⟨#[]⟩, .int .i64 0, .int .i64 11, .int .i64 0, .int .i64 0, .bool false, .int .i64 0, .bool false, .int .i64 0, .string ⟨#[]⟩, .int .i64 0, .int .i64 2, .int .i64 0, .int .i64 0, .bool false, .int .i64 0, .bool false, .int .i64 0, .string ⟨#[]⟩, .int .i64 0, .int .i64 9, .int .i64 0, .int .i64 0, .bool false, .int .i64 0, .bool false, .int .i64 0, .string ⟨#[]⟩, .int .i64 0] 53)).alloc (.cells #[.int .i64 2, .int .i64 2, .int .i64 0, .int .i64 0, .int .i64 0, .int .i64 0, .int .i64 0, .slice (some ⟨w.heap.size, 0, none⟩) 1 1, .slice none 0 0, .slice (some ⟨w.heap.size + 1, 0, none⟩) 6 6] 33)).alloc (.cells #[.int .i64 0, .int .i64 0, .int .i64 0, .int .i64 0, .int .i64 0, .bool false, .bool false, .bool false, .bool false, .int .i64 0, .int .i64 0, .int .i64 0, .int .i64 0, .int .i64 0, .int .i64 0, .bool true, .bool false, .bool false, .bool true, .int .i64 0, .int .i64 1, .int .i64 0, .int .i64 0, .int .i64 0, .int .i64 0, .bool true, .bool false, .bool false, .bool false, .int .i64 0, .int .i64 1, .int .i64 0, .int .i64 0, .int .i64 0, .int .i64 0, .bool false, .bool true, .bool false, .bool false, .int .i64 0, .int .i64 1, .int .i64 0, .int .i64 0, .int .i64 0, .int .i64 0, .bool true, .bool true, .bool false, .bool true, .int .i64 0, .int .i64 1, .int .i64 0, .int .i64 0, .int .i64 0, .int .i64 0, .bool true, .bool true, .bool true, .bool true, .int .i64 2, .int .i64 2, .int .i64 0, .int .i64 0, .int .i64 0, .int .i64 0, .bool false, .bool false, .bool false, .bool true, .int .i64 0, .int .i64 3, .int .i64 0, .int .i64 0, .int .i64 0, .int .i64 0, .bool true, .bool false, .bool false, .bool true, .int .i64 1, .int .i64 4, .int .i64 0, .int .i64 0, .int .i64 0, .int .i64 0, .bool true, .bool false, .bool true, .bool true, .int .i64 2, .int .i64 9, .int .i64 0, .int .i64 0, .int .i64 0, .int .i64 0, .bool true, .bool false, .bool false, .bool true, .int .i64 2, .int .i64 5, .int .i64 0, .int .i64 0, .int .i64 0, .int .i64 0, .bool true, .bool false, .bool true, .bool true, .int .i64 2, .int .i64 5, .int .i64 0, .int .i64 0, .int .i64 0, .int .i64 0, .bool true, .bool false, .bool false, .bool true, .int .i64 0] 56)).heap[w.heap.size + 3]? = some (.cells #[.int .i64 0, .int .i64 0, .int .i64 0, .int .i64 0, .int .i64 0, .bool false, .bool false, .bool false, .bool false, .int .i64 0, .int .i64 0, .int .i64 0, .int .i64 0, .int .i64 0, .int .i64 0, .bool true, .bool false, .bool false, .bool true, .int .i64 0, .int .i64 1, .int .i64 0, .int .i64 0, .int .i64 0, .int .i64 0, .bool true, .bool false, .bool false, .bool false, .int .i64 0, .int .i64 1, .int .i64 0, .int .i64 0, .int .i64 0, .int .i64 0, .bool false, .bool true, .bool false, .bool false, .int .i64 0, .int .i64 1, .int .i64 0, .int .i64 0, .int .i64 0, .int .i64 0, .bool true, .bool true, .bool false, .bool true, .int .i64 0, .int .i64 1, .int .i64 0, .int .i64 0, .int .i64 0, .int .i64 0, .bool true, .bool true, .bool true, .bool true, .int .i64 2, .int .i64 2, .int .i64 0, .int .i64 0, .int .i64 0, .int .i64 0, .bool false, .bool false, .bool false, .bool true, .int .i64 0, .int .i64 3, .int .i64 0, .int .i64 0, .int .i64 0, .int .i64 0, .bool true, .bool false, .bool false, .bool true, .int .i64 1, .int .i64 4, .int .i64 0, .int .i64 0, .int .i64 0, .int .i64 0, .bool true, .bool false, .bool true, .bool true, .int .i64 2, .int .i64 9, .int .i64 0, .int .i64 0, .int .i64 0, .int .i64 0, .bool true, .bool false, .bool false, .bool true, .int .i64 2, .int .i64 5, .int .i64 0, .int .i64 0, .int .i64 0, .int .i64 0, .bool true, .bool false, .bool true, .bool true, .int .i64 2, .int .i64 5, .int .i64 0, .int .i64 0, .int .i64 0, .int .i64 0, .bool true, .bool false, .bool false, .bool true, .int .i64 0] 56))
  have SZ : ((((w.alloc (.cells #[.string ⟨#[109]⟩, .bool false, .int .i64 2] 49)).alloc (.cells #[.int .i64 1, .int .i64 1, .int .i64 0, .bool false, .int .i64 0, .bool false, .int .i64 0, .string ⟨#[]⟩, .int .i64 0, .int .i64 3, .int .i64 0, .int .i64 0, .bool false, .int .i64 0, .bool false, .int .i64 0, .string ⟨#[]⟩, .int .i64 0, .int .i64 10, .int .i64 0, .int .i64 0, .bool false, .int .i64 0, .bool false, .int .i64 0, .string ⟨#[]⟩, .int .i64 0, .int .i64 11, .int .i64 0, .int .i64 0, .bool false, .int .i64 0, .bool false, .int .i64 0, .string ⟨#[]⟩, .int .i64 0, .int .i64 2, .int .i64 0, .int .i64 0, .bool false, .int .i64 0, .bool false, .int .i64 0, .string ⟨#[]⟩, .int .i64 0, .int .i64 9, .int .i64 0, .int .i64 0, .bool false, .int .i64 0, .bool false, .int .i64 0, .string ⟨#[]⟩, .int .i64 0] 53)).alloc (.cells #[.int .i64 2, .int .i64 2, .int .i64 0, .int .i64 0, .int .i64 0, .int .i64 0, .int .i64 0, .slice (some ⟨w.heap.size, 0, none⟩) 1 1, .slice none 0 0, .slice (some ⟨w.heap.size + 1, 0, none⟩) 6 6] 33)).alloc (.cells #[.int .i64 0, .int .i64 0, .int .i64 0, .int .i64 0, .int .i64 0, .bool false, .bool false, .bool false, .bool false, .int .i64 0, .int .i64 0, .int .i64 0, .int .i64 0, .int .i64 0, .int .i64 0, .bool true, .bool false, .bool false, .bool true, .int .i64 0, .int .i64 1, .int .i64 0, .int .i64 0, .int .i64 0, .int .i64 0, .bool true, .bool false, .bool false, .bool false, .int .i64 0, .int .i64 1, .int .i64 0, .int .i64 0, .int .i64 0, .int .i64 0, .bool false, .bool true, .bool false, .bool false, .int .i64 0, .int .i64 1, .int .i64 0, .int .i64 0, .int .i64 0, .int .i64 0, .bool true, .bool true, .bool false, .bool true, .int .i64 0, .int .i64 1, .int .i64 0, .int .i64 0, .int .i64 0, .int .i64 0, .bool true, .bool true, .bool true, .bool true, .int .i64 2, .int .i64 2, .int .i64 0, .int .i64 0, .int .i64 0, .int .i64 0, .bool false, .bool false, .bool false, .bool true, .int .i64 0, .int .i64 3, .int .i64 0, .int .i64 0, .int .i64 0, .int .i64 0, .bool true, .bool false, .bool false, .bool true, .int .i64 1, .int .i64 4, .int .i64 0, .int .i64 0, .int .i64 0, .int .i64 0, .bool true, .bool false, .bool true, .bool true, .int .i64 2, .int .i64 9, .int .i64 0, .int .i64 0, .int .i64 0, .int .i64 0, .bool true, .bool false, .bool false, .bool true, .int .i64 2, .int .i64 5, .int .i64 0, .int .i64 0, .int .i64 0, .int .i64 0, .bool true, .bool false, .bool true, .bool true, .int .i64 2, .int .i64 5, .int .i64 0, .int .i64 0, .int .i64 0, .int .i64 0, .bool true, .bool false, .bool false, .bool true, .int .i64 0] 56)).heap.size = w.heap.size + 4 := by simp
  have W4 := Kept.mk bb
  clear bb
  generalize ((((w.alloc (.cells #[.string ⟨#[109]⟩, .bool false, .int .i64 2] 49)).alloc (.cells #[.int .i64 1, .int .i64 1, .int .i64 0, .bool false, .int .i64 0, .bool false, .int .i64 0, .string ⟨#[]⟩, .int .i64 0, .int .i64 3, .int .i64 0, .int .i64 0, .bool false, .int .i64 0, .bool false, .int .i64 0, .string ⟨#[]⟩, .int .i64 0, .int .i64 10, .int .i64 0, .int .i64 0, .bool false, .int .i64 0, .bool false, .int .i64 0, .string ⟨#[]⟩, .int .i64 0, .int .i64 11, .int .i64 0, .int .i64 0, .bool false, .int .i64 0, .bool false, .int .i64 0, .string ⟨#[]⟩, .int .i64 0, .int .i64 2, .int .i64 0, .int .i64 0, .bool false, .int .i64 0, .bool false, .int .i64 0, .string ⟨#[]⟩, .int .i64 0, .int .i64 9, .int .i64 0, .int .i64 0, .bool false, .int .i64 0, .bool false, .int .i64 0, .string ⟨#[]⟩, .int .i64 0] 53)).alloc (.cells #[.int .i64 2, .int .i64 2, .int .i64 0, .int .i64 0, .int .i64 0, .int .i64 0, .int .i64 0, .slice (some ⟨w.heap.size, 0, none⟩) 1 1, .slice none 0 0, .slice (some ⟨w.heap.size + 1, 0, none⟩) 6 6] 33)).alloc (.cells #[.int .i64 0, .int .i64 0, .int .i64 0, .int .i64 0, .int .i64 0, .bool false, .bool false, .bool false, .bool false, .int .i64 0, .int .i64 0, .int .i64 0, .int .i64 0, .int .i64 0, .int .i64 0, .bool true, .bool false, .bool false, .bool true, .int .i64 0, .int .i64 1, .int .i64 0, .int .i64 0, .int .i64 0, .int .i64 0, .bool true, .bool false, .bool false, .bool false, .int .i64 0, .int .i64 1, .int .i64 0, .int .i64 0, .int .i64 0, .int .i64 0, .bool false, .bool true, .bool false, .bool false, .int .i64 0, .int .i64 1, .int .i64 0, .int .i64 0, .int .i64 0, .int .i64 0, .bool true, .bool true, .bool false, .bool true, .int .i64 0, .int .i64 1, .int .i64 0, .int .i64 0, .int .i64 0, .int .i64 0, .bool true, .bool true, .bool true, .bool true, .int .i64 2, .int .i64 2, .int .i64 0, .int .i64 0, .int .i64 0, .int .i64 0, .bool false, .bool false, .bool false, .bool true, .int .i64 0, .int .i64 3, .int .i64 0, .int .i64 0, .int .i64 0, .int .i64 0, .bool true, .bool false, .bool false, .bool true, .int .i64 1, .int .i64 4, .int .i64 0, .int .i64 0, .int .i64 0, .int .i64 0, .bool true, .bool false, .bool true, .bool true, .int .i64 2, .int .i64 9, .int .i64 0, .int .i64 0, .int .i64 0, .int .i64 0, .bool true, .bool false, .bool false, .bool true, .int .i64 2, .int .i64 5, .int .i64 0, .int .i64 0, .int .i64 0, .int .i64 0, .bool true, .bool false, .bool true, .bool true, .int .i64 2, .int .i64 5, .int .i64 0, .int .i64 0, .int .i64 0, .int .i64 0, .bool true, .bool false, .bool false, .bool true, .int .i64 0] 56)) = w4 at *
  have YT : ∀ j u, [.int .i64 epc, .int .i64 0, .int .i64 0, .int .i64 0, .int .i64 0, .bool ed, .bool ek, .bool ef, .bool ok, .int .i64 en][j]? = some u → w4.cell? ⟨w.heap.size + 3, K * 10 + j, none⟩ = some u := fun j u hu => (cell_of_row w4 (w.heap.size + 3) (K * 10 + j) _ _ _ XT).trans (by rw [List.getElem?_toArray]; exact htab j u hu)
  have c0 := YT 0 _ rfl
  have c1 := YT 1 _ rfl
  have c2 := YT 2 _ rfl
  have c3 := YT 3 _ rfl
  have c4 := YT 4 _ rfl
  have c5 := YT 5 _ rfl
  have c6 := YT 6 _ rfl
  have c7 := YT 7 _ rfl
  have c8 := YT 8 _ rfl
  have c9 := YT 9 _ rfl
  simp only [Nat.add_zero] at c0
  clear YT htab XT SZ
  go_upto_region 4 with (fail)
  have bR := below_alloc_self w4 (.cells #[.int .i64 epc, .int .i64 0, .int .i64 0, .int .i64 0, .int .i64 0, .bool ed, .bool ek, .bool ef, .bool ok, .int .i64 en] 56)
  have XR := heap_alloc_new w4 (.cells #[.int .i64 epc, .int .i64 0, .int .i64 0, .int .i64 0, .int .i64 0, .bool ed, .bool ek, .bool ef, .bool ok, .int .i64 en] 56)
  have X1 := heap_keep X1 bR
  have XP := heap_keep XP bR
  have W5 := Kept.mk (W4.out.trans (bR.mono W4.out.size))
  clear c0 c1 c2 c3 c4 c5 c6 c7 c8 c9 W4 bR hM hK2
  generalize w4.alloc (.cells #[.int .i64 epc, .int .i64 0, .int .i64 0, .int .i64 0, .int .i64 0, .bool ed, .bool ek, .bool ef, .bool ok, .int .i64 en] 56) = w5 at *
  obtain ⟨S4, hS4⟩ : ∃ S, w4.heap.size = S := ⟨_, rfl⟩
  rw [hS4] at XR ⊢
  clear hS4
  have YR := fun j => cell_of_row ((w5.alloc (.cells #[.int .i64 0, .int .i64 0] 3)).alloc (.cells #[.int .i64 1] 3)) S4 j _ _ _ (heap_keep (heap_keep XR (below_alloc_self _ (.cells #[.int .i64 0, .int .i64 0] 3))) (below_alloc_self _ (.cells #[.int .i64 1] 3)))
  go_upto_region 5 with (fail)
  have bb := ((((below_alloc_self w5 (.cells #[.int .i64 0, .int .i64 0] 3)).alloc (by simp) (.cells #[.int .i64 1] 3)).alloc (by simp; omega) (.cells #[.int .i64 epc, .int .i64 0, .int .i64 0, .int .i64 0, .int .i64 0, .bool ed, .bool ek, .bool ef, .int .i64 0, .int .i64 3, .int .i64 0, .int .i64 0, .int .i64 0, .bool true, .bool false, .bool false] 55)).alloc (by simp; omega) (.cells #[.int .i64 2] 3)).alloc (by simp; omega) (.cells #[.int .i64 0, .int .i64 0, .int .i64 0, .int .i64 0, .slice (some ⟨w5.heap.size, 0, none⟩) 2 2, .slice (some ⟨w5.heap.size + 1, 0, none⟩) 1 1, .int .i64 1, .slice (some ⟨w5.heap.size + 2, 0, none⟩) 2 2, .slice (some ⟨w5.heap.size + 3, 0, none⟩) 1 1, .int .i64 0] 41)
  have XN := (heap_keep (heap_keep (heap_keep (heap_keep (heap_at_new (W := w5) (o := (.cells #[.int .i64 0, .int .i64 0] 3)) (g := w5.heap.size) (by simp) : (w5.alloc (.cells #[.int .i64 0, .int .i64 0] 3)).heap[w5.heap.size]? = some (.cells #[.int .i64 0, .int .i64 0] 3)) (below_alloc_self _ (.cells #[.int .i64 1] 3))) (below_alloc_self _ (.cells #[.int .i64 epc, .int .i64 0, .int .i64 0, .int .i64 0, .int .i64 0, .bool ed, .bool ek, .bool ef, .int .i64 0, .int .i64 3, .int .i64 0, .int .i64 0, .int .i64 0, .bool true, .bool false, .bool false] 55))) (below_alloc_self _ (.cells #[.int .i64 2] 3))) (below_alloc_self _ (.cells #[.int .i64 0, .int .i64 0, .int .i64 0, .int .i64 0, .slice (some ⟨w5.heap.size, 0, none⟩) 2 2, .slice (some ⟨w5.heap.size + 1, 0, none⟩) 1 1, .int .i64 1, .slice (some ⟨w5.heap.size + 2, 0, none⟩) 2 2, .slice (some ⟨w5.heap.size + 3, 0, none⟩) 1 1, .int .i64 0] 41)))
  have XS := (heap_keep (heap_keep (heap_keep (heap_at_new (W := (w5.alloc (.cells #[.int .i64 0, .int .i64 0] 3))) (o := (.cells #[.int .i64 1] 3)) (g := w5.heap.size + 1) (by simp) : ((w5.alloc (.cells #[.int .i64 0, .int .i64 0] 3)).alloc (.cells #[.int .i64 1] 3)).heap[w5.heap.size + 1]? = some (.cells #[.int .i64 1] 3)) (below_alloc_self _ (.cells #[.int .i64 epc, .int .i64 0, .int .i64 0, .int .i64 0, .int .i64 0, .bool ed, .bool ek, .bool ef, .int .i64 0, .int .i64 3, .int .i64 0, .int .i64 0, .int .i64 0, .bool true, .bool false, .bool false] 55))) (below_alloc_self _ (.cells #[.int .i64 2] 3))) (below_alloc_self _ (.cells #[.int .i64 0, .int .i64 0, .int .i64 0, .int .i64 0, .slice (some ⟨w5.heap.size, 0, none⟩) 2 2, .slice (some ⟨w5.heap.size + 1, 0, none⟩) 1 1, .int .i64 1, .slice (some ⟨w5.heap.size + 2, 0, none⟩) 2 2, .slice (some ⟨w5.heap.size + 3, 0, none⟩) 1 1, .int .i64 0] 41)))
  have XE := (heap_keep (heap_keep (heap_at_new (W := ((w5.alloc (.cells #[.int .i64 0, .int .i64 0] 3)).alloc (.cells #[.int .i64 1] 3))) (o := (.cells #[.int .i64 epc, .int .i64 0, .int .i64 0, .int .i64 0, .int .i64 0, .bool ed, .bool ek, .bool ef, .int .i64 0, .int .i64 3, .int .i64 0, .int .i64 0, .int .i64 0, .bool true, .bool false, .bool false] 55)) (g := w5.heap.size + 2) (by simp) : (((w5.alloc (.cells #[.int .i64 0, .int .i64 0] 3)).alloc (.cells #[.int .i64 1] 3)).alloc (.cells #[.int .i64 epc, .int .i64 0, .int .i64 0, .int .i64 0, .int .i64 0, .bool ed, .bool ek, .bool ef, .int .i64 0, .int .i64 3, .int .i64 0, .int .i64 0, .int .i64 0, .bool true, .bool false, .bool false] 55)).heap[w5.heap.size + 2]? = some (.cells #[.int .i64 epc, .int .i64 0, .int .i64 0, .int .i64 0, .int .i64 0, .bool ed, .bool ek, .bool ef, .int .i64 0, .int .i64 3, .int .i64 0, .int .i64 0, .int .i64 0, .bool true, .bool false, .bool false] 55)) (below_alloc_self _ (.cells #[.int .i64 2] 3))) (below_alloc_self _ (.cells #[.int .i64 0, .int .i64 0, .int .i64 0, .int .i64 0, .slice (some ⟨w5.heap.size, 0, none⟩) 2 2, .slice (some ⟨w5.heap.size + 1, 0, none⟩) 1 1, .int .i64 1, .slice (some ⟨w5.heap.size + 2, 0, none⟩) 2 2, .slice (some ⟨w5.heap.size + 3, 0, none⟩) 1 1, .int .i64 0] 41)))
  have XQ := (heap_keep (heap_at_new (W := (((w5.alloc (.cells #[.int .i64 0, .int .i64 0] 3)).alloc (.cells #[.int .i64 1] 3)).alloc (.cells #[.int .i64 epc, .int .i64 0, .int .i64 0, .int .i64 0, .int .i64 0, .bool ed, .bool ek, .bool ef, .int .i64 0, .int .i64 3, .int .i64 0, .int .i64 0, .int .i64 0, .bool true, .bool false, .bool false] 55))) (o := (.cells #[.int .i64 2] 3)) (g := w5.heap.size + 3) (by simp) : ((((w5.alloc (.cells #[.int .i64 0, .int .i64 0] 3)).alloc (.cells #[.int .i64 1] 3)).alloc (.cells #[.int .i64 epc, .int .i64 0, .int .i64 0, .int .i64 0, .int .i64 0, .bool ed, .bool ek, .bool ef, .int .i64 0, .int .i64 3, .int .i64 0, .int .i64 0, .int .i64 0, .bool true, .bool false, .bool false] 55)).alloc (.cells #[.int .i64 2] 3)).heap[w5.heap.size + 3]? = some (.cells #[.int .i64 2] 3)) (below_alloc_self _ (.cells #[.int .i64 0, .int .i64 0, .int .i64 0, .int .i64 0, .slice (some ⟨w5.heap.size, 0, none⟩) 2 2, .slice (some ⟨w5.heap.size + 1, 0, none⟩) 1 1, .int .i64 1, .slice (some ⟨w5.heap.size + 2, 0, none⟩) 2 2, .slice (some ⟨w5.heap.size + 3, 0, none⟩) 1 1, .int .i64 0] 41)))
  have XC := (heap_at_new (W := ((((w5.alloc (.cells #[.int .i64 0, .int .i64 0] 3)).alloc (.cells #[.int .i64 1] 3)).alloc (.cells #[.int .i64 epc, .int .i64 0, .int .i64 0, .int .i64 0, .int .i64 0, .bool ed, .bool ek, .bool ef, .int .i64 0, .int .i64 3, .int .i64 0, .int .i64 0, .int .i64 0, .bool true, .bool false, .bool false] 55)).alloc (.cells #[.int .i64 2] 3))) (o := (.cells #[.int .i64 0, .int .i64 0, .int .i64 0, .int .i64 0, .slice (some ⟨w5.heap.size, 0, none⟩) 2 2, .slice (some ⟨w5.heap.size + 1, 0, none⟩) 1 1, .int .i64 1, .slice (some ⟨w5.heap.size + 2, 0, none⟩) 2 2, .slice (some ⟨w5.heap.size + 3, 0, none⟩) 1 1, .int .i64 0] 41)) (g := w5.heap.size + 4) (by simp) : (((((w5.alloc (.cells #[.int .i64 0, .int .i64 0] 3)).alloc (.cells #[.int .i64 1] 3)).alloc (.cells #[.int .i64 epc, .int .i64 0, .int .i64 0, .int .i64 0, .int .i64 0, .bool ed, .bool ek, .bool ef, .int .i64 0, .int .i64 3, .int .i64 0, .int .i64 0, .int .i64 0, .bool true, .bool false, .bool false] 55)).alloc (.cells #[.int .i64 2] 3)).alloc (.cells #[.int .i64 0, .int .i64 0, .int .i64 0, .int .i64 0, .slice (some ⟨w5.heap.size, 0, none⟩) 2 2, .slice (some ⟨w5.heap.size + 1, 0, none⟩) 1 1, .int .i64 1, .slice (some ⟨w5.heap.size + 2, 0, none⟩) 2 2, .slice (some ⟨w5.heap.size + 3, 0, none⟩) 1 1, .int .i64 0] 41)).heap[w5.heap.size + 4]? = some (.cells #[.int .i64 0, .int .i64 0, .int .i64 0, .int .i64 0, .slice (some ⟨w5.heap.size, 0, none⟩) 2 2, .slice (some ⟨w5.heap.size + 1, 0, none⟩) 1 1, .int .i64 1, .slice (some ⟨w5.heap.size + 2, 0, none⟩) 2 2, .slice (some ⟨w5.heap.size + 3, 0, none⟩) 1 1, .int .i64 0] 41))
  have XR := heap_keep XR bb
  have X1 := heap_keep X1 bb
  have XP := heap_keep XP bb
  have W7 := Kept.mk (W5.out.trans (bb.mono W5.out.size))
  clear YR W5 bb
  generalize (((((w5.alloc (.cells #[.int .i64 0, .int .i64 0] 3)).alloc (.cells #[.int .i64 1] 3)).alloc (.cells #[.int .i64 epc, .int .i64 0, .int .i64 0, .int .i64 0, .int .i64 0, .bool ed, .bool ek, .bool ef, .int .i64 0, .int .i64 3, .int .i64 0, .int .i64 0, .int .i64 0, .bool true, .bool false, .bool false] 55)).alloc (.cells #[.int .i64 2] 3)).alloc (.cells #[.int .i64 0, .int .i64 0, .int .i64 0, .int .i64 0, .slice (some ⟨w5.heap.size, 0, none⟩) 2 2, .slice (some ⟨w5.heap.size + 1, 0, none⟩) 1 1, .int .i64 1, .slice (some ⟨w5.heap.size + 2, 0, none⟩) 2 2, .slice (some ⟨w5.heap.size + 3, 0, none⟩) 1 1, .int .i64 0] 41)) = w7 at *
  have HP : Kept (PIs w7 ⟨2, 2, 0, 0, 0, 0, 0, .slice (some ⟨w.heap.size, 0, none⟩) 1 1, .slice none 0 0, some ⟨w.heap.size + 1, 0, none⟩, 6, 6⟩ ilW) := ⟨⟨rfl, (show 6 ≤ 1000 by omega), reads_block (n := 6) (size := 9) X1 rfl⟩⟩
  have HC : Kept (CfIs w7 ⟨⟨0, 0, 0, 0, ⟨some ⟨w5.heap.size, 0, none⟩, 2, 2⟩, ⟨some ⟨w5.heap.size + 1, 0, none⟩, 1, 1⟩, 1⟩, ⟨some ⟨w5.heap.size + 2, 0, none⟩, 2, 2⟩, ⟨some ⟨w5.heap.size + 3, 0, none⟩, 1, 1⟩, 0⟩ (mW ⟨epc, 0, 0, 0, 0, ed, ek, ef⟩)) := ⟨⟨⟨rfl, rfl, rfl, rfl, ⟨rfl, Nat.le_refl _, reads_block (n := 2) (size := 1) XN rfl⟩, ⟨rfl, Nat.le_refl _, reads_block (n := 1) (size := 1) XS rfl⟩, rfl⟩, ⟨rfl, Nat.le_refl _, reads_block (n := 2) (size := 8) XE rfl⟩, ⟨rfl, Nat.le_refl _, reads_block (n := 1) (size := 1) XQ rfl⟩, rfl⟩⟩
  have HSM : Small (mW ⟨epc, 0, 0, 0, 0, ed, ek, ef⟩).buf := fun y hy => by
    simp only [mW, List.mem_cons, List.not_mem_nil, or_false] at hy
    rcases hy with rfl | rfl <;> simp [Ent.small]
  have hcan := HR.out.c
  have HDO : Kept (∀ w1, Below w7.heap.size w7 w1 → Calls Try.prog 28 #[.agg #[.int .i64 2, .int .i64 2, .int .i64 0, .int .i64 0, .int .i64 0, .int .i64 0, .int .i64 0, .slice (some ⟨w.heap.size, 0, none⟩) 1 1, .slice none 0 0, .slice (some ⟨w.heap.size + 1, 0, none⟩) 6 6], .agg #[.int .i64 0, .int .i64 0, .int .i64 0, .int .i64 0, .slice (some ⟨w5.heap.size, 0, none⟩) 2 2, .slice (some ⟨w5.heap.size + 1, 0, none⟩) 1 1, .int .i64 1, .slice (some ⟨w5.heap.size + 2, 0, none⟩) 2 2, .slice (some ⟨w5.heap.size + 3, 0, none⟩) 1 1, .int .i64 0]] w1 (CfGotO (retQ ilW (mW ⟨epc, 0, 0, 0, 0, ed, ek, ef⟩)) w1)) := ⟨fun w1 hb => pretire_any ⟨2, 2, 0, 0, 0, 0, 0, .slice (some ⟨w.heap.size, 0, none⟩) 1 1, .slice none 0 0, some ⟨w.heap.size + 1, 0, none⟩, 6, 6⟩ ilW ⟨⟨0, 0, 0, 0, ⟨some ⟨w5.heap.size, 0, none⟩, 2, 2⟩, ⟨some ⟨w5.heap.size + 1, 0, none⟩, 1, 1⟩, 1⟩, ⟨some ⟨w5.heap.size + 2, 0, none⟩, 2, 2⟩, ⟨some ⟨w5.heap.size + 3, 0, none⟩, 1, 1⟩, 0⟩ _ w1 (HP.out.past hb) (HC.out.past hb) (by show 2 ≤ 1000; omega) (by show 1 ≤ 1000; omega) (by show 2 ≤ 1000; omega) (by show 1 ≤ 1000; omega) HSM (fun h => HR.out.ft (by rw [← hcan]; exact h))⟩
  have HCANK : Kept (∀ w1, Below w7.heap.size w7 w1 → Calls Try.prog 29 #[.agg #[.int .i64 2, .int .i64 2, .int .i64 0, .int .i64 0, .int .i64 0, .int .i64 0, .int .i64 0, .slice (some ⟨w.heap.size, 0, none⟩) 1 1, .slice none 0 0, .slice (some ⟨w.heap.size + 1, 0, none⟩) 6 6], .agg #[.int .i64 0, .int .i64 0, .int .i64 0, .int .i64 0, .slice (some ⟨w5.heap.size, 0, none⟩) 2 2, .slice (some ⟨w5.heap.size + 1, 0, none⟩) 1 1, .int .i64 1, .slice (some ⟨w5.heap.size + 2, 0, none⟩) 2 2, .slice (some ⟨w5.heap.size + 3, 0, none⟩) 1 1, .int .i64 0]] w1 fun en w' => en = .returned (.bool ok) ∧ Below w1.heap.size w1 w') := ⟨fun w1 hb => by rw [← hcan]; exact pcan_any ⟨2, 2, 0, 0, 0, 0, 0, .slice (some ⟨w.heap.size, 0, none⟩) 1 1, .slice none 0 0, some ⟨w.heap.size + 1, 0, none⟩, 6, 6⟩ ilW ⟨⟨0, 0, 0, 0, ⟨some ⟨w5.heap.size, 0, none⟩, 2, 2⟩, ⟨some ⟨w5.heap.size + 1, 0, none⟩, 1, 1⟩, 1⟩, ⟨some ⟨w5.heap.size + 2, 0, none⟩, 2, 2⟩, ⟨some ⟨w5.heap.size + 3, 0, none⟩, 1, 1⟩, 0⟩ _ w1 (HP.out.past hb) (HC.out.past hb) (by show 2 ≤ 1000000; omega)⟩
  generalize hS5 : w5.heap.size = S5 at *
  have Y3 := fun j => cell_of_row w7 (w.heap.size + 2) j _ _ _ XP
  have Y6 := fun j => cell_of_row w7 (S5 + 4) j _ _ _ XC
  clear HP HC HSM XN XS XE XQ X1 hcan
  go_wp2_with fail
  refine (HDO.out w7 (Below.refl _ _)).mono ?_
  rintro enx w8 ⟨cx, rfl, hcx, b8⟩
  obtain ⟨⟨x0, x1, x2, x3, ⟨xmA, xmN, xmC⟩, ⟨xsA, xsN, xsC⟩, xpc⟩, ⟨xbA, xbN, xbC⟩, ⟨xqA, xqN, xqC⟩, xf⟩ := cx
  have XP := heap_keep XP b8
  have XC := heap_keep XC b8
  have XR := heap_keep XR b8
  have W8 := Kept.mk (W7.out.trans (b8.mono W7.out.size))
  have HB8 := Kept.mk b8
  clear Y3 Y6 b8
  go_upto_region 6 with (fail)
  have bD := below_alloc_self w8 (.cells #[.int .i64 x0, .int .i64 x1, .int .i64 x2, .int .i64 x3, .slice xmA xmN xmC, .slice xsA xsN xsC, .int .i64 xpc, .slice xbA xbN xbC, .slice xqA xqN xqC, .int .i64 xf] 41)
  have XD := heap_alloc_new w8 (.cells #[.int .i64 x0, .int .i64 x1, .int .i64 x2, .int .i64 x3, .slice xmA xmN xmC, .slice xsA xsN xsC, .int .i64 xpc, .slice xbA xbN xbC, .slice xqA xqN xqC, .int .i64 xf] 41)
  have hcx := hcx.past bD
  have XP := heap_keep XP bD
  have XC := heap_keep XC bD
  have XR := heap_keep XR bD
  have W9 := Kept.mk (W8.out.trans (bD.mono W8.out.size))
  have HB9 := Kept.mk (HB8.out.trans (bD.mono HB8.out.size))
  clear bD W8 HB8
  generalize w8.alloc (.cells #[.int .i64 x0, .int .i64 x1, .int .i64 x2, .int .i64 x3, .slice xmA xmN xmC, .slice xsA xsN xsC, .int .i64 xpc, .slice xbA xbN xbC, .slice xqA xqN xqC, .int .i64 xf] 41) = w9 at *
  obtain ⟨S7, hS7⟩ : ∃ S, w8.heap.size = S := ⟨_, rfl⟩
  rw [hS7] at XD ⊢
  clear hS7
  have hqi : (retQ ilW (mW ⟨epc, 0, 0, 0, 0, ed, ek, ef⟩)).isSome = ok := by rw [← HR.out.c]; unfold retQ; split <;> simp_all
  rw [hqi]
  have hkk : (ok != ok) = false := by cases ok <;> rfl
  have XRK : Kept (∀ w1, Below w9.heap.size w9 w1 → CellsAt w1 S4 0 [.int .i64 epc, .int .i64 0, .int .i64 0, .int .i64 0, .int .i64 0, .bool ed, .bool ek, .bool ef, .bool ok, .int .i64 en]) := ⟨fun w1 hb => CellsAt.of_block (heap_keep XR hb)⟩
  have XPK : Kept (∀ w1, Below w9.heap.size w9 w1 → CellsAt w1 (w.heap.size + 2) 0 [.int .i64 2, .int .i64 2, .int .i64 0, .int .i64 0, .int .i64 0, .int .i64 0, .int .i64 0, .slice (some ⟨w.heap.size, 0, none⟩) 1 1, .slice none 0 0, .slice (some ⟨w.heap.size + 1, 0, none⟩) 6 6]) := ⟨fun w1 hb => CellsAt.of_block (heap_keep XP hb)⟩
  have XCK : Kept (∀ w1, Below w9.heap.size w9 w1 → CellsAt w1 (S5 + 4) 0 [.int .i64 0, .int .i64 0, .int .i64 0, .int .i64 0, .slice (some ⟨S5, 0, none⟩) 2 2, .slice (some ⟨S5 + 1, 0, none⟩) 1 1, .int .i64 1, .slice (some ⟨S5 + 2, 0, none⟩) 2 2, .slice (some ⟨S5 + 3, 0, none⟩) 1 1, .int .i64 0]) := ⟨fun w1 hb => CellsAt.of_block (heap_keep XC hb)⟩
  have HCANK := Kept.mk (fun w1 (hb : Below w9.heap.size w9 w1) => HCANK.out w1 (HB9.out.trans (hb.mono HB9.out.size)))
  refine region_tell (w9.heap.size) (G := fun _ => True) (ts := [
      .is (Value.bool ok),
      .is (Value.pointer (some ⟨S4, 8, none⟩)),
      .is (Value.bool ok),
      .is (Value.bool false),
      .is (Value.bool false),
      .is (.agg #[.int .i64 2, .int .i64 2, .int .i64 0, .int .i64 0, .int .i64 0, .int .i64 0, .int .i64 0, .slice (some ⟨w.heap.size, 0, none⟩) 1 1, .slice none 0 0, .slice (some ⟨w.heap.size + 1, 0, none⟩) 6 6]),
      .is (.agg #[.int .i64 0, .int .i64 0, .int .i64 0, .int .i64 0, .slice (some ⟨S5, 0, none⟩) 2 2, .slice (some ⟨S5 + 1, 0, none⟩) 1 1, .int .i64 1, .slice (some ⟨S5 + 2, 0, none⟩) 2 2, .slice (some ⟨S5 + 3, 0, none⟩) 1 1, .int .i64 0]),
      .draws (.bool ok),
      .is (Value.pointer (some ⟨S4, 8, none⟩)),
      .is (Value.bool ok),
      .is (Value.bool false),
      .is (Value.bool false)])
    (fin := []) (cs := []) (by kernel_rfl) rfl (by kernel_rfl) (by kernel_rfl)
    ⟨trivial, trivial, trivial, trivial, trivial, trivial, trivial, trivial, trivial, trivial, trivial, trivial, trivial⟩ (fun _ _ _ _ => trivial) (by simp) (by simp) trivial
    ⟨?_, ?_, ?_, ?_, ?_, ?_, ?_, ?_, ?_, ?_, ?_, ?_, trivial⟩ ?_
  · intro vals w1 hB _ hd
    clear hd
    refine one_value (v := Value.bool ok) rfl ?_ (post_is rfl)
    kernel_rfl
  · intro vals w1 hB _ hd
    clear hd
    refine one_value (v := Value.pointer (some ⟨S4, 8, none⟩)) rfl ?_ (post_is rfl)
    kernel_rfl
  · intro vals w1 hB _ hd
    clear hd
    refine one_value (v := Value.bool ok) rfl ?_ (post_is rfl)
    exact exec_cell rfl (by kernel_rfl) ((XRK.out w1 hB) 8 _ rfl) Try.underlying4 rfl
  · intro vals w1 hB _ hd
    clear hd
    refine one_value (v := Value.bool false) rfl ?_ (post_is rfl)
    exact Eq.trans (b := .ok (.value (.bool ((ok) != (ok)))) w1) (by kernel_rfl) (by rw [hkk])
  · intro vals w1 hB _ hd
    clear hd
    refine one_value (v := Value.bool false) rfl ?_ (post_is rfl)
    kernel_rfl
  · intro vals w1 hB _ hd
    clear hd
    refine one_value_g (v := .agg #[.int .i64 2, .int .i64 2, .int .i64 0, .int .i64 0, .int .i64 0, .int .i64 0, .int .i64 0, .slice (some ⟨w.heap.size, 0, none⟩) 1 1, .slice none 0 0, .slice (some ⟨w.heap.size + 1, 0, none⟩) 6 6]) (by kernel_rfl) ?_ (post_is rfl)
    exact exec_load_row rfl (b := w.heap.size + 2) (off := 0) (by kernel_rfl) [.int .i64 2, .int .i64 2, .int .i64 0, .int .i64 0, .int .i64 0, .int .i64 0, .int .i64 0, .slice (some ⟨w.heap.size, 0, none⟩) 1 1, .slice none 0 0, .slice (some ⟨w.heap.size + 1, 0, none⟩) 6 6] (XPK.out w1 hB) Try.underlying33 rfl (by kernel_rfl)
  · intro vals w1 hB _ hd
    clear hd
    refine one_value_g (v := .agg #[.int .i64 0, .int .i64 0, .int .i64 0, .int .i64 0, .slice (some ⟨S5, 0, none⟩) 2 2, .slice (some ⟨S5 + 1, 0, none⟩) 1 1, .int .i64 1, .slice (some ⟨S5 + 2, 0, none⟩) 2 2, .slice (some ⟨S5 + 3, 0, none⟩) 1 1, .int .i64 0]) (by kernel_rfl) ?_ (post_is rfl)
    exact exec_load_row rfl (b := S5 + 4) (off := 0) (by kernel_rfl) [.int .i64 0, .int .i64 0, .int .i64 0, .int .i64 0, .slice (some ⟨S5, 0, none⟩) 2 2, .slice (some ⟨S5 + 1, 0, none⟩) 1 1, .int .i64 1, .slice (some ⟨S5 + 2, 0, none⟩) 2 2, .slice (some ⟨S5 + 3, 0, none⟩) 1 1, .int .i64 0] (XCK.out w1 hB) Try.underlying41 rfl (by kernel_rfl)
  · intro vals w1 hB _ hd
    clear hd
    refine one_calls_g (f := 29) (args := #[.agg #[.int .i64 2, .int .i64 2, .int .i64 0, .int .i64 0, .int .i64 0, .int .i64 0, .int .i64 0, .slice (some ⟨w.heap.size, 0, none⟩) 1 1, .slice none 0 0, .slice (some ⟨w.heap.size + 1, 0, none⟩) 6 6], .agg #[.int .i64 0, .int .i64 0, .int .i64 0, .int .i64 0, .slice (some ⟨S5, 0, none⟩) 2 2, .slice (some ⟨S5 + 1, 0, none⟩) 1 1, .int .i64 1, .slice (some ⟨S5 + 2, 0, none⟩) 2 2, .slice (some ⟨S5 + 3, 0, none⟩) 1 1, .int .i64 0]]) (w1 := w1) (by kernel_rfl) (by kernel_rfl) ?_
    refine (HCANK.out w1 hB).mono ?_
    rintro e1 w3 ⟨rfl, hb⟩
    exact ⟨_, rfl, post_draws rfl hb⟩
  · intro vals w1 hB _ hd
    clear hd
    refine one_value_g (v := Value.pointer (some ⟨S4, 8, none⟩)) (by kernel_rfl) ?_ (post_is rfl)
    kernel_rfl
  · intro vals w1 hB _ hd
    clear hd
    refine one_value_g (v := Value.bool ok) (by kernel_rfl) ?_ (post_is rfl)
    exact exec_cell rfl (by kernel_rfl) ((XRK.out w1 hB) 8 _ rfl) Try.underlying4 rfl
  · intro vals w1 hB _ hd
    clear hd
    refine one_value_g (v := Value.bool false) (by kernel_rfl) ?_ (post_is rfl)
    exact Eq.trans (b := .ok (.value (.bool ((ok) != (ok)))) w1) (by kernel_rfl) (by rw [hkk])
  · intro vals w1 hB _ hd
    clear hd
    refine one_value (v := Value.bool false) rfl ?_ (post_is rfl)
    kernel_rfl
  intro vals w10 b10 _ hr
  clear hr
  simp only [fillT, Tell.is, Tell.draws, Act.put, List.setIfInBounds_toArray, List.set_cons_zero, List.set_cons_succ]
  have XD := heap_keep XD b10
  have XR := heap_keep XR b10
  have hcx := hcx.past b10
  have W10 := Kept.mk (W9.out.trans (b10.mono W9.out.size))
  have YD := fun j => cell_of_row w10 S7 j _ _ _ XD
  have YR := fun j => cell_of_row w10 S4 j _ _ _ XR
  clear XRK XPK XCK HCANK W9 HB9 b10 XP XC HDO
  cases ok with
  | false =>
    have hq : retQ ilW (mW ⟨epc, 0, 0, 0, 0, ed, ek, ef⟩) = none := by unfold retQ; rw [if_neg (by rw [HR.out.c]; decide)]
    rw [hq] at hcx
    have HCX : Kept (CfIs w10 ⟨⟨x0, x1, x2, x3, ⟨xmA, xmN, xmC⟩, ⟨xsA, xsN, xsC⟩, xpc⟩, ⟨xbA, xbN, xbC⟩, ⟨xqA, xqN, xqC⟩, xf⟩ Conf.zero) := ⟨hcx.is⟩
    clear hcx hq hqi hkk
    go_wp2_with fail
    refine (same9 ⟨⟨x0, x1, x2, x3, ⟨xmA, xmN, xmC⟩, ⟨xsA, xsN, xsC⟩, xpc⟩, ⟨xbA, xbN, xbC⟩, ⟨xqA, xqN, xqC⟩, xf⟩ Cnf.zero Conf.zero Conf.zero w10 HCX.out CfIs.zero (by decide) (by decide) (by decide) (by decide) (by decide) (by decide) (by decide) (by decide)).mono ?_
    rintro enx w11 ⟨rfl, b11⟩
    rw [decide_eq_true rfl]
    have W11 := Kept.mk (W10.out.trans (b11.mono W10.out.size))
    clear b11 YD YR XD XR
    go_wp2_with fail
    refine (HAW.out w11).mono ?_
    rintro enx w12 ⟨rfl, b12⟩
    have W12 := Kept.mk (W11.out.trans (b12.mono W11.out.size))
    clear b12
    go_wp2_with fail
    go_ret
    exact ⟨rfl, W12.out⟩
  | true =>
    have hq : retQ ilW (mW ⟨epc, 0, 0, 0, 0, ed, ek, ef⟩) = some (retireOf ilW (mW ⟨epc, 0, 0, 0, 0, ed, ek, ef⟩)) := by unfold retQ; rw [if_pos HR.out.c]
    rw [hq] at hcx
    have hcx : CfOwn w10 w7.heap.size ⟨⟨x0, x1, x2, x3, ⟨xmA, xmN, xmC⟩, ⟨xsA, xsN, xsC⟩, xpc⟩, ⟨xbA, xbN, xbC⟩, ⟨xqA, xqN, xqC⟩, xf⟩ (retireOf ilW (mW ⟨epc, 0, 0, 0, 0, ed, ek, ef⟩)) := hcx
    clear hq hqi hkk
    by_cases hen : en = 0
    · obtain ⟨g1, g2, g3, g4⟩ := HR.out.g rfl hen
      have hxf : xf = 0 := hcx.fin.trans g1
      have hxb : xbN = 1 := by have h := hcx.is.buf.n; simp only at h; rw [g2] at h; simpa using h
      have hxq : xqN = 1 := by have h := hcx.is.rsb.n; simp only at h; omega
      have hxp : xpc = 1 := hcx.st.pc.trans g4
      have hrd : RdE w10 xbA [⟨0, 3, 0, 0 - 1, 0, true, false, false⟩] := by rw [← g2]; exact hcx.is.buf.r
      obtain ⟨pb, po, rfl, -, -, q1, -⟩ := RdE.at_ hrd (i := 0) (by decide)
      have q1 : w10.cell? ⟨pb, po + 1, none⟩ = some (.int .i64 3) := q1
      subst hxf hxb hxq hxp hen
      clear hcx hrd g1 g2 g3 g4 XD XR
      go_wp2_with fail
      refine (HAW.out w10).mono ?_
      rintro enx w11 ⟨rfl, b11⟩
      have W11 := Kept.mk (W10.out.trans (b11.mono W10.out.size))
      clear b11
      go_wp2_with fail
      go_ret
      exact ⟨rfl, W11.out⟩
    · obtain ⟨g1, g2, g3, g4, g5⟩ := HR.out.z rfl hen
      have hxf : xf = en := hcx.fin.trans g1
      have hxb : xbN = 0 := by have h := hcx.is.buf.n; simp only at h; rw [g2] at h; simpa using h
      have hxq : xqN = 0 := by have h := hcx.is.rsb.n; simp only at h; rw [g3] at h; simpa using h
      have hxp : xpc = epc := hcx.st.pc.trans g4
      have hxs : xsN = 1 := by have h := hcx.is.st.stack.n; simp only at h; omega
      have henb : (xf != 0) = true := by rw [hxf]; simpa using hen
      subst hxf hxb hxq hxp hxs
      clear hcx g1 g2 g3 g4 g5 XD XR hen
      go_wp2_with fail
      refine (HAW.out w10).mono ?_
      rintro enx w11 ⟨rfl, b11⟩
      have W11 := Kept.mk (W10.out.trans (b11.mono W10.out.size))
      clear b11
      go_wp2_with fail
      go_ret
      exact ⟨rfl, W11.out⟩
theorem rwaits_law (which : Int) (w : World) (_h : -9223372036854775808 ≤ which ∧ which ≤ 9223372036854775807) : Calls Try.prog 4 #[.int .i64 which] w (SaysTrue w) := rwaits_walk which w
end Go.Proofs.Ytchldbkjapnlcaa
