/- The law ConfNone: numbers that no machine has are none. -/
import Derived.Test.YtchldbkjapnlcaaJAwa13
import Derived.Test.YtchldbkjapnlcaaJb
import Derived.Test.YtchldbkjapnlcaaJd
import Derived.Deep.DeepCutAuto
set_option linter.unusedVariables false
set_option linter.unusedSimpArgs false
namespace Go.Proofs.Ytchldbkjapnlcaa
open Go.RowKit

/-- What is told of a row of the table. -/
structure Row13 (L : List Int) (b : Bool) : Prop where
  n : L.length ≤ 18
  i : ∀ x ∈ L, I64 x
  y : b = true → ∃ m : Conf, cfInts m = L
  z : b = false → ∀ m : Conf, cfInts m ≠ L
theorem no13 {L : List Int} (h : ((Rdr.mk L false).s11.bad || !(Rdr.mk L false).s11.l.isEmpty) = true) : ∀ m : Conf, cfInts m ≠ L := fun m e => by
  have h1 := (Rdr.conf_of m).2
  rw [e] at h1
  rw [h1] at h
  cases h
theorem row13_0 : Row13 [0, 0, 0, 0, 0, 0, 0, 0, 0, 0] true := ⟨by decide, fun x hx => by
    simp only [List.mem_cons, List.not_mem_nil, or_false] at hx
    unfold I64
    omega, fun _ => ⟨⟨⟨0, 0, 0, 0, [], [], 0⟩, [], [], 0⟩, rfl⟩, fun h => by cases h⟩
theorem row13_1 : Row13 [0, 0, 0, 0, 0, 0, 0, 0, 0] false := ⟨by decide, fun x hx => by
    simp only [List.mem_cons, List.not_mem_nil, or_false] at hx
    unfold I64
    omega, fun h => (by cases h), fun _ => no13 (by decide +kernel)⟩
theorem row13_2 : Row13 [0, 0, 0, 0, 0, 0, 0, 0, 0, 0, 0] false := ⟨by decide, fun x hx => by
    simp only [List.mem_cons, List.not_mem_nil, or_false] at hx
    unfold I64
    omega, fun h => (by cases h), fun _ => no13 (by decide +kernel)⟩
theorem row13_3 : Row13 [1, 2, 3, 4, 1, 9, 1, 5, -1, 0, 0, 1] true := ⟨by decide, fun x hx => by
    simp only [List.mem_cons, List.not_mem_nil, or_false] at hx
    unfold I64
    omega, fun _ => ⟨⟨⟨1, 2, 3, 4, [9], [5], -1⟩, [], [], 1⟩, rfl⟩, fun h => by cases h⟩
theorem row13_4 : Row13 [0, 0, 0, 0, 1, 0, 0, 0, 0, 0] false := ⟨by decide, fun x hx => by
    simp only [List.mem_cons, List.not_mem_nil, or_false] at hx
    unfold I64
    omega, fun h => (by cases h), fun _ => no13 (by decide +kernel)⟩
theorem row13_5 : Row13 [0, 0, 0, 0, -1, 0, 0, 0, 0, 0] false := ⟨by decide, fun x hx => by
    simp only [List.mem_cons, List.not_mem_nil, or_false] at hx
    unfold I64
    omega, fun h => (by cases h), fun _ => no13 (by decide +kernel)⟩
theorem row13_6 : Row13 [0, 0, 0, 0, 1099511627776, 0, 0, 0, 0, 0] false := ⟨by decide, fun x hx => by
    simp only [List.mem_cons, List.not_mem_nil, or_false] at hx
    unfold I64
    omega, fun h => (by cases h), fun _ => no13 (by decide +kernel)⟩
theorem row13_7 : Row13 [0, 0, 0, 0, 0, 0, 0, 1, 1, 2, 3, -1, 4, 1, 0, 1, 0, 0] true := ⟨by decide, fun x hx => by
    simp only [List.mem_cons, List.not_mem_nil, or_false] at hx
    unfold I64
    omega, fun _ => ⟨⟨⟨0, 0, 0, 0, [], [], 0⟩, [⟨1, 2, 3, -1, 4, true, false, true⟩], [], 0⟩, rfl⟩, fun h => by cases h⟩
theorem row13_8 : Row13 [0, 0, 0, 0, 0, 0, 0, 1, 1, 2, 3, -1, 4, 2, 0, 1, 0, 0] false := ⟨by decide, fun x hx => by
    simp only [List.mem_cons, List.not_mem_nil, or_false] at hx
    unfold I64
    omega, fun h => (by cases h), fun _ => no13 (by decide +kernel)⟩
theorem row13_9 : Row13 [0, 0, 0, 0, 0, 0, 0, 1, 1, 2, 3, -1, 4, 1, 0, -1, 0, 0] false := ⟨by decide, fun x hx => by
    simp only [List.mem_cons, List.not_mem_nil, or_false] at hx
    unfold I64
    omega, fun h => (by cases h), fun _ => no13 (by decide +kernel)⟩
theorem row13_10 : Row13 [0, 0, 0, 0, 0, 0, 0, 0, 2, 7, 8, 2] true := ⟨by decide, fun x hx => by
    simp only [List.mem_cons, List.not_mem_nil, or_false] at hx
    unfold I64
    omega, fun _ => ⟨⟨⟨0, 0, 0, 0, [], [], 0⟩, [], [7, 8], 2⟩, rfl⟩, fun h => by cases h⟩
theorem row13_11 : Row13 [0, 0, 0, 0, 0, 0, 0, 0, 2, 7, 2] false := ⟨by decide, fun x hx => by
    simp only [List.mem_cons, List.not_mem_nil, or_false] at hx
    unfold I64
    omega, fun h => (by cases h), fun _ => no13 (by decide +kernel)⟩
set_option maxRecDepth 100000 in
set_option maxHeartbeats 4000000 in
theorem cnone_walk (n0 : Int) (w : World) : Calls Try.prog 13 #[.int .i64 n0] w (SaysTrue w) := by
  have HAW := Kept.mk awake13
  obtain ⟨M, hM, hM0, hM1⟩ := mask255 n0
  have hmod : ∃ k : Nat, M.tmod 12 = (k : Int) ∧ k < 12 := ⟨(M.tmod 12).toNat, by rw [Int.tmod_eq_emod_of_nonneg hM0]; omega, by rw [Int.tmod_eq_emod_of_nonneg hM0]; omega⟩
  obtain ⟨k, hk, hk12⟩ := hmod
  go_enter Try.func13, Try.ntmps13
  go_upto_region 2 with (fail)
  have bb := ((((((((((((below_alloc_self w (.cells #[.int .i64 0, .int .i64 0, .int .i64 0, .int .i64 0, .int .i64 0, .int .i64 0, .int .i64 0, .int .i64 0, .int .i64 0, .int .i64 0] 3)).alloc (by simp) (.cells #[.int .i64 0, .int .i64 0, .int .i64 0, .int .i64 0, .int .i64 0, .int .i64 0, .int .i64 0, .int .i64 0, .int .i64 0] 3)).alloc (by simp; omega) (.cells #[.int .i64 0, .int .i64 0, .int .i64 0, .int .i64 0, .int .i64 0, .int .i64 0, .int .i64 0, .int .i64 0, .int .i64 0, .int .i64 0, .int .i64 0] 3)).alloc (by simp; omega) (.cells #[.int .i64 1, .int .i64 2, .int .i64 3, .int .i64 4, .int .i64 1, .int .i64 9, .int .i64 1, .int .i64 5, .int .i64 (-1), .int .i64 0, .int .i64 0, .int .i64 1] 3)).alloc (by simp; omega) (.cells #[.int .i64 0, .int .i64 0, .int .i64 0, .int .i64 0, .int .i64 1, .int .i64 0, .int .i64 0, .int .i64 0, .int .i64 0, .int .i64 0] 3)).alloc (by simp; omega) (.cells #[.int .i64 0, .int .i64 0, .int .i64 0, .int .i64 0, .int .i64 (-1), .int .i64 0, .int .i64 0, .int .i64 0, .int .i64 0, .int .i64 0] 3)).alloc (by simp; omega) (.cells #[.int .i64 0, .int .i64 0, .int .i64 0, .int .i64 0, .int .i64 1099511627776, .int .i64 0, .int .i64 0, .int .i64 0, .int .i64 0, .int .i64 0] 3)).alloc (by simp; omega) (.cells #[.int .i64 0, .int .i64 0, .int .i64 0, .int .i64 0, .int .i64 0, .int .i64 0, .int .i64 0, .int .i64 1, .int .i64 1, .int .i64 2, .int .i64 3, .int .i64 (-1), .int .i64 4, .int .i64 1, .int .i64 0, .int .i64 1, .int .i64 0, .int .i64 0] 3)).alloc (by simp; omega) (.cells #[.int .i64 0, .int .i64 0, .int .i64 0, .int .i64 0, .int .i64 0, .int .i64 0, .int .i64 0, .int .i64 1, .int .i64 1, .int .i64 2, .int .i64 3, .int .i64 (-1), .int .i64 4, .int .i64 2, .int .i64 0, .int .i64 1, .int .i64 0, .int .i64 0] 3)).alloc (by simp; omega) (.cells #[.int .i64 0, .int .i64 0, .int .i64 0, .int .i64 0, .int .i64 0, .int .i64 0, .int .i64 0, .int .i64 1, .int .i64 1, .int .i64 2, .int .i64 3, .int .i64 (-1), .int .i64 4, .int .i64 1, .int .i64 0, .int .i64 (-1), .int .i64 0, .int .i64 0] 3)).alloc (by simp; omega) (.cells #[.int .i64 0, .int .i64 0, .int .i64 0, .int .i64 0, .int .i64 0, .int .i64 0, .int .i64 0, .int .i64 0, .int .i64 2, .int .i64 7, .int .i64 8, .int .i64 2] 3)).alloc (by simp; omega) (.cells #[.int .i64 0, .int .i64 0, .int .i64 0, .int .i64 0, .int .i64 0, .int .i64 0, .int .i64 0, .int .i64 0, .int .i64 2, .int .i64 7, .int .i64 2] 3)).alloc (by simp; omega) (.cells #[.slice (some ⟨w.heap.size, 0, none⟩) 10 10, .bool true, .slice (some ⟨w.heap.size + 1, 0, none⟩) 9 9, .bool false, .slice (some ⟨w.heap.size + 2, 0, none⟩) 11 11, .bool false, .slice (some ⟨w.heap.size + 3, 0, none⟩) 12 12, .bool true, .slice (some ⟨w.heap.size + 4, 0, none⟩) 10 10, .bool false, .slice (some ⟨w.heap.size + 5, 0, none⟩) 10 10, .bool false, .slice (some ⟨w.heap.size + 6, 0, none⟩) 10 10, .bool false, .slice (some ⟨w.heap.size + 7, 0, none⟩) 18 18, .bool true, .slice (some ⟨w.heap.size + 8, 0, none⟩) 18 18, .bool false, .slice (some ⟨w.heap.size + 9, 0, none⟩) 18 18, .bool false, .slice (some ⟨w.heap.size + 10, 0, none⟩) 12 12, .bool true, .slice (some ⟨w.heap.size + 11, 0, none⟩) 11 11, .bool false] 84)
  have XR0 := (heap_keep (heap_keep (heap_keep (heap_keep (heap_keep (heap_keep (heap_keep (heap_keep (heap_keep (heap_keep (heap_keep (heap_keep (heap_at_new (W := w) (o := (.cells #[.int .i64 0, .int .i64 0, .int .i64 0, .int .i64 0, .int .i64 0, .int .i64 0, .int .i64 0, .int .i64 0, .int .i64 0, .int .i64 0] 3)) (g := w.heap.size + 0) (by simp) : (w.alloc (.cells #[.int .i64 0, .int .i64 0, .int .i64 0, .int .i64 0, .int .i64 0, .int .i64 0, .int .i64 0, .int .i64 0, .int .i64 0, .int .i64 0] 3)).heap[w.heap.size + 0]? = some (.cells #[.int .i64 0, .int .i64 0, .int .i64 0, .int .i64 0, .int .i64 0, .int .i64 0, .int .i64 0, .int .i64 0, .int .i64 0, .int .i64 0] 3)) (below_alloc_self _ (.cells #[.int .i64 0, .int .i64 0, .int .i64 0, .int .i64 0, .int .i64 0, .int .i64 0, .int .i64 0, .int .i64 0, .int .i64 0] 3))) (below_alloc_self _ (.cells #[.int .i64 0, .int .i64 0, .int .i64 0, .int .i64 0, .int .i64 0, .int .i64 0, .int .i64 0, .int .i64 0, .int .i64 0, .int .i64 0, .int .i64 0] 3))) (below_alloc_self _ (.cells #[.int .i64 1, .int .i64 2, .int .i64 3, .int .i64 4, .int .i64 1, .int .i64 9, .int .i64 1, .int .i64 5, .int .i64 (-1), .int .i64 0, .int .i64 0, .int .i64 1] 3))) (below_alloc_self _ (.cells #[.int .i64 0, .int .i64 0, .int .i64 0, .int .i64 0, .int .i64 1, .int .i64 0, .int .i64 0, .int .i64 0, .int .i64 0, .int .i64 0] 3))) (below_alloc_self _ (.cells #[.int .i64 0, .int .i64 0, .int .i64 0, .int .i64 0, .int .i64 (-1), .int .i64 0, .int .i64 0, .int .i64 0, .int .i64 0, .int .i64 0] 3))) (below_alloc_self _ (.cells #[.int .i64 0, .int .i64 0, .int .i64 0, .int .i64 0, .int .i64 1099511627776, .int .i64 0, .int .i64 0, .int .i64 0, .int .i64 0, .int .i64 0] 3))) (below_alloc_self _ (.cells #[.int .i64 0, .int .i64 0, .int .i64 0, .int .i64 0, .int .i64 0, .int .i64 0, .int .i64 0, .int .i64 1, .int .i64 1, .int .i64 2, .int .i64 3, .int .i64 (-1), .int .i64 4, .int .i64 1, .int .i64 0, .int .i64 1, .int .i64 0, .int .i64 0] 3))) (below_alloc_self _ (.cells #[.int .i64 0, .int .i64 0, .int .i64 0, .int .i64 0, .int .i64 0, .int .i64 0, .int .i64 0, .int .i64 1, .int .i64 1, .int .i64 2, .int .i64 3, .int .i64 (-1), .int .i64 4, .int .i64 2, .int .i64 0, .int .i64 1, .int .i64 0, .int .i64 0] 3))) (below_alloc_self _ (.cells #[.int .i64 0, .int .i64 0, .int .i64 0, .int .i64 0, .int .i64 0, .int .i64 0, .int .i64 0, .int .i64 1, .int .i64 1, .int .i64 2, .int .i64 3, .int .i64 (-1), .int .i64 4, .int .i64 1, .int .i64 0, .int .i64 (-1), .int .i64 0, .int .i64 0] 3))) (below_alloc_self _ (.cells #[.int .i64 0, .int .i64 0, .int .i64 0, .int .i64 0, .int .i64 0, .int .i64 0, .int .i64 0, .int .i64 0, .int .i64 2, .int .i64 7, .int .i64 8, .int .i64 2] 3))) (below_alloc_self _ (.cells #[.int .i64 0, .int .i64 0, .int .i64 0, .int .i64 0, .int .i64 0, .int .i64 0, .int .i64 0, .int .i64 0, .int .i64 2, .int .i64 7, .int .i64 2] 3))) (below_alloc_self _ (.cells #[.slice (some ⟨w.heap.size, 0, none⟩) 10 10, .bool true, .slice (some ⟨w.heap.size + 1, 0, none⟩) 9 9, .bool false, .slice (some ⟨w.heap.size + 2, 0, none⟩) 11 11, .bool false, .slice (some ⟨w.heap.size + 3, 0, none⟩) 12 12, .bool true, .slice (some ⟨w.heap.size + 4, 0, none⟩) 10 10, .bool false, .slice (some ⟨w.heap.size + 5, 0, none⟩) 10 10, .bool false, .slice (some ⟨w.heap.size + 6, 0, none⟩) 10 10, .bool false, .slice (some ⟨w.heap.size + 7, 0, none⟩) 18 18, .bool true, .slice (some ⟨w.heap.size + 8, 0, none⟩) 18 18, .bool false, .slice (some ⟨w.heap.size + 9, 0, none⟩) 18 18, .bool false, .slice (some ⟨w.heap.size + 10, 0, none⟩) 12 12, .bool true, .slice (some ⟨w.heap.size + 11, 0, none⟩) 11 11, .bool false] 84)))
  have XR1 := (heap_keep (heap_keep (heap_keep (heap_keep (heap_keep (heap_keep (heap_keep (heap_keep (heap_keep (heap_keep (heap_keep (heap_at_new (W := (w.alloc (.cells #[.int .i64 0, .int .i64 0, .int .i64 0, .int .i64 0, .int .i64 0, .int .i64 0, .int .i64 0, .int .i64 0, .int .i64 0, .int .i64 0] 3))) (o := (.cells #[.int .i64 0, .int .i64 0, .int .i64 0, .int .i64 0, .int .i64 0, .int .i64 0, .int .i64 0, .int .i64 0, .int .i64 0] 3)) (g := w.heap.size + 1) (by simp) : ((w.alloc (.cells #[.int .i64 0, .int .i64 0, .int .i64 0, .int .i64 0, .int .i64 0, .int .i64 0, .int .i64 0, .int .i64 0, .int .i64 0, .int .i64 0] 3)).alloc (.cells #[.int .i64 0, .int .i64 0, .int .i64 0, .int .i64 0, .int .i64 0, .int .i64 0, .int .i64 0, .int .i64 0, .int .i64 0] 3)).heap[w.heap.size + 1]? = some (.cells #[.int .i64 0, .int .i64 0, .int .i64 0, .int .i64 0, .int .i64 0, .int .i64 0, .int .i64 0, .int .i64 0, .int .i64 0] 3)) (below_alloc_self _ (.cells #[.int .i64 0, .int .i64 0, .int .i64 0, .int .i64 0, .int .i64 0, .int .i64 0, .int .i64 0, .int .i64 0, .int .i64 0, .int .i64 0, .int .i64 0] 3))) (below_alloc_self _ (.cells #[.int .i64 1, .int .i64 2, .int .i64 3, .int .i64 4, .int .i64 1, .int .i64 9, .int .i64 1, .int .i64 5, .int .i64 (-1), .int .i64 0, .int .i64 0, .int .i64 1] 3))) (below_alloc_self _ (.cells #[.int .i64 0, .int .i64 0, .int .i64 0, .int .i64 0, .int .i64 1, .int .i64 0, .int .i64 0, .int .i64 0, .int .i64 0, .int .i64 0] 3))) (below_alloc_self _ (.cells #[.int .i64 0, .int .i64 0, .int .i64 0, .int .i64 0, .int .i64 (-1), .int .i64 0, .int .i64 0, .int .i64 0, .int .i64 0, .int .i64 0] 3))) (below_alloc_self _ (.cells #[.int .i64 0, .int .i64 0, .int .i64 0, .int .i64 0, .int .i64 1099511627776, .int .i64 0, .int .i64 0, .int .i64 0, .int .i64 0, .int .i64 0] 3))) (below_alloc_self _ (.cells #[.int .i64 0, .int .i64 0, .int .i64 0, .int .i64 0, .int .i64 0, .int .i64 0, .int .i64 0, .int .i64 1, .int .i64 1, .int .i64 2, .int .i64 3, .int .i64 (-1), .int .i64 4, .int .i64 1, .int .i64 0, .int .i64 1, .int .i64 0, .int .i64 0] 3))) (below_alloc_self _ (.cells #[.int .i64 0, .int .i64 0, .int .i64 0, .int .i64 0, .int .i64 0, .int .i64 0, .int .i64 0, .int .i64 1, .int .i64 1, .int .i64 2, .int .i64 3, .int .i64 (-1), .int .i64 4, .int .i64 2, .int .i64 0, .int .i64 1, .int .i64 0, .int .i64 0] 3))) (below_alloc_self _ (.cells #[.int .i64 0, .int .i64 0, .int .i64 0, .int .i64 0, .int .i64 0, .int .i64 0, .int .i64 0, .int .i64 1, .int .i64 1, .int .i64 2, .int .i64 3, .int .i64 (-1), .int .i64 4, .int .i64 1, .int .i64 0, .int .i64 (-1), .int .i64 0, .int .i64 0] 3))) (below_alloc_self _ (.cells #[.int .i64 0, .int .i64 0, .int .i64 0, .int .i64 0, .int .i64 0, .int .i64 0, .int .i64 0, .int .i64 0, .int .i64 2, .int .i64 7, .int .i64 8, .int .i64 2] 3))) (below_alloc_self _ (.cells #[.int .i64 0, .int .i64 0, .int .i64 0, .int .i64 0, .int .i64 0, .int .i64 0, .int .i64 0, .int .i64 0, .int .i64 2, .int .i64 7, .int .i64 2] 3))) (below_alloc_self _ (.cells #[.slice (some ⟨w.heap.size, 0, none⟩) 10 10, .bool true, .slice (some ⟨w.heap.size + 1, 0, none⟩) 9 9, .bool false, .slice (some ⟨w.heap.size + 2, 0, none⟩) 11 11, .bool false, .slice (some ⟨w.heap.size + 3, 0, none⟩) 12 12, .bool true, .slice (some ⟨w.heap.size + 4, 0, none⟩) 10 10, .bool false, .slice (some ⟨w.heap.size + 5, 0, none⟩) 10 10, .bool false, .slice (some ⟨w.heap.size + 6, 0, none⟩) 10 10, .bool false, .slice (some ⟨w.heap.size + 7, 0, none⟩) 18 18, .bool true, .slice (some ⟨w.heap.size + 8, 0, none⟩) 18 18, .bool false, .slice (some ⟨w.heap.size + 9, 0, none⟩) 18 18, .bool false, .slice (some ⟨w.heap.size + 10, 0, none⟩) 12 12, .bool true, .slice (some ⟨w.heap.size + 11, 0, none⟩) 11 11, .bool false] 84)))
  have XR2 := (heap_keep (heap_keep (heap_keep (heap_keep (heap_keep (heap_keep (heap_keep (heap_keep (heap_keep (heap_keep (heap_at_new (W := ((w.alloc (.cells #[.int .i64 0, .int .i64 0, .int .i64 0, .int .i64 0, .int .i64 0, .int .i64 0, .int .i64 0, .int .i64 0, .int .i64 0, .int .i64 0] 3)).alloc (.cells #[.int .i64 0, .int .i64 0, .int .i64 0, .int .i64 0, .int .i64 0, .int .i64 0, .int .i64 0, .int .i64 0, .int .i64 0] 3))) (o := (.cells #[.int .i64 0, .int .i64 0, .int .i64 0, .int .i64 0, .int .i64 0, .int .i64 0, .int .i64 0, .int .i64 0, .int .i64 0, .int .i64 0, .int .i64 0] 3)) (g := w.heap.size + 2) (by simp) : (((w.alloc (.cells #[.int .i64 0, .int .i64 0, .int .i64 0, .int .i64 0, .int .i64 0, .int .i64 0, .int .i64 0, .int .i64 0, .int .i64 0, .int .i64 0] 3)).alloc (.cells #[.int .i64 0, .int .i64 0, .int .i64 0, .int .i64 0, .int .i64 0, .int .i64 0, .int .i64 0, .int .i64 0, .int .i64 0] 3)).alloc (.cells #[.int .i64 0, .int .i64 0, .int .i64 0, .int .i64 0, .int .i64 0, .int .i64 0, .int .i64 0, .int .i64 0, .int .i64 0, .int .i64 0, .int .i64 0] 3)).heap[w.heap.size + 2]? = some (.cells #[.int .i64 0, .int .i64 0, .int .i64 0, .int .i64 0, .int .i64 0, .int .i64 0, .int .i64 0, .int .i64 0, .int .i64 0, .int .i64 0, .int .i64 0] 3)) (below_alloc_self _ (.cells #[.int .i64 1, .int .i64 2, .int .i64 3, .int .i64 4, .int .i64 1, .int .i64 9, .int .i64 1, .int .i64 5, .int .i64 (-1), .int .i64 0, .int .i64 0, .int .i64 1] 3))) (below_alloc_self _ (.cells #[.int .i64 0, .int .i64 0, .int .i64 0, .int .i64 0, .int .i64 1, .int .i64 0, .int .i64 0, .int .i64 0, .int .i64 0, .int .i64 0] 3))) (below_alloc_self _ (.cells #[.int .i64 0, .int .i64 0, .int .i64 0, .int .i64 0, .int .i64 (-1), .int .i64 0, .int .i64 0, .int .i64 0, .int .i64 0, .int .i64 0] 3))) (below_alloc_self _ (.cells #[.int .i64 0, .int .i64 0, .int .i64 0, .int .i64 0, .int .i64 1099511627776, .int .i64 0, .int .i64 0, .int .i64 0, .int .i64 0, .int .i64 0] 3))) (below_alloc_self _ (.cells #[.int .i64 0, .int .i64 0, .int .i64 0, .int .i64 0, .int .i64 0, .int .i64 0, .int .i64 0, .int .i64 1, .int .i64 1, .int .i64 2, .int .i64 3, .int .i64 (-1), .int .i64 4, .int .i64 1, .int .i64 0, .int .i64 1, .int .i64 0, .int .i64 0] 3))) (below_alloc_self _ (.cells #[.int .i64 0, .int .i64 0, .int .i64 0, .int .i64 0, .int .i64 0, .int .i64 0, .int .i64 0, .int .i64 1, .int .i64 1, .int .i64 2, .int .i64 3, .int .i64 (-1), .int .i64 4, .int .i64 2, .int .i64 0, .int .i64 1, .int .i64 0, .int .i64 0] 3))) (below_alloc_self _ (.cells #[.int .i64 0, .int .i64 0, .int .i64 0, .int .i64 0, .int .i64 0, .int .i64 0, .int .i64 0, .int .i64 1, .int .i64 1, .int .i64 2, .int .i64 3, .int .i64 (-1), .int .i64 4, .int .i64 1, .int .i64 0, .int .i64 (-1), .int .i64 0, .int .i64 0] 3))) (below_alloc_self _ (.cells #[.int .i64 0, .int .i64 0, .int .i64 0, .int .i64 0, .int .i64 0, .int .i64 0, .int .i64 0, .int .i64 0, .int .i64 2, .int .i64 7, .int .i64 8, .int .i64 2] 3))) (below_alloc_self _ (.cells #[.int .i64 0, .int .i64 0, .int .i64 0, .int .i64 0, .int .i64 0, .int .i64 0, .int .i64 0, .int .i64 0, .int .i64 2, .int .i64 7, .int .i64 2] 3))) (below_alloc_self _ (.cells #[.slice (some ⟨w.heap.size, 0, none⟩) 10 10, .bool true, .slice (some ⟨w.heap.size + 1, 0, none⟩) 9 9, .bool false, .slice (some ⟨w.heap.size + 2, 0, none⟩) 11 11, .bool false, .slice (some ⟨w.heap.size + 3, 0, none⟩) 12 12, .bool true, .slice (some ⟨w.heap.size + 4, 0, none⟩) 10 10, .bool false, .slice (some ⟨w.heap.size + 5, 0, none⟩) 10 10, .bool false, .slice (some ⟨w.heap.size + 6, 0, none⟩) 10 10, .bool false, .slice (some ⟨w.heap.size + 7, 0, none⟩) 18 18, .bool true, .slice (some ⟨w.heap.size + 8, 0, none⟩) 18 18, .bool false, .slice (some ⟨w.heap.size + 9, 0, none⟩) 18 18, .bool false, .slice (some ⟨w.heap.size + 10, 0, none⟩) 12 12, .bool true, .slice (some ⟨w.heap.size + 11, 0, none⟩) 11 11, .bool false] 84)))
  have XR3 := (heap_keep (heap_keep (heap_keep (heap_keep (heap_keep (heap_keep (heap_keep (heap_keep (heap_keep (heap_at_new (W := (((w.alloc (.cells #[.int .i64 0, .int .i64 0, .int .i64 0, .int .i64 0, .int .i64 0, .int .i64 0, .int .i64 0, .int .i64 0, .int .i64 0, .int .i64 0] 3)).alloc (.cells #[.int .i64 0, .int .i64 0, .int .i64 0, .int .i64 0, .int .i64 0, .int .i64 0, .int .i64 0, .int .i64 0, .int .i64 0] 3)).alloc (.cells #[.int .i64 0, .int .i64 0, .int .i64 0, .int .i64 0, .int .i64 0, .int .i64 0, .int .i64 0, .int .i64 0, .int .i64 0, .int .i64 0, .int .i64 0] 3))) (o := (.cells #[.int .i64 1, .int .i64 2, .int .i64 3, .int .i64 4, .int .i64 1, .int .i64 9, .int .i64 1, .int .i64 5, .int .i64 (-1), .int .i64 0, .int .i64 0, .int .i64 1] 3)) (g := w.heap.size + 3) (by simp) : ((((w.alloc (.cells #[.int .i64 0, .int .i64 0, .int .i64 0, .int .i64 0, .int .i64 0, .int .i64 0, .int .i64 0, .int .i64 0, .int .i64 0, .int .i64 0] 3)).alloc (.cells #[.int .i64 0, .int .i64 0, .int .i64 0, .int .i64 0, .int .i64 0, .int .i64 0, .int .i64 0, .int .i64 0, .int .i64 0] 3)).alloc (.cells #[.int .i64 0, .int .i64 0, .int .i64 0, .int .i64 0, .int .i64 0, .int .i64 0, .int .i64 0, .int .i64 0, .int .i64 0, .int .i64 0, .int .i64 0] 3)).alloc (.cells #[.int .i64 1, .int .i64 2, .int .i64 3, .int .i64 4, .int .i64 1, .int .i64 9, .int .i64 1, .int .i64 5, .int .i64 (-1), .int .i64 0, .int .i64 0, .int .i64 1] 3)).heap[w.heap.size + 3]? = some (.cells #[.int .i64 1, .int .i64 2, .int .i64 3, .int .i64 4, .int .i64 1, .int .i64 9, .int .i64 1, .int .i64 5, .int .i64 (-1), .int .i64 0, .int .i64 0, .int .i64 1] 3)) (below_alloc_self _ (.cells #[.int .i64 0, .int .i64 0, .int .i64 0, .int .i64 0, .int .i64 1, .int .i64 0, .int .i64 0, .int .i64 0, .int .i64 0, .int .i64 0] 3))) (below_alloc_self _ (.cells #[.int .i64 0, .int .i64 0, .int .i64 0, .int .i64 0, .int .i64 (-1), .int .i64 0, .int .i64 0, .int .i64 0, .int .i64 0, .int .i64 0] 3))) (below_alloc_self _ (.cells #[.int .i64 0, .int .i64 0, .int .i64 0, .int .i64 0, .int .i64 1099511627776, .int .i64 0, .int .i64 0, .int .i64 0, .int .i64 0, .int .i64 0] 3))) (below_alloc_self _ (.cells #[.int .i64 0, .int .i64 0, .int .i64 0, .int .i64 0, .int .i64 0, .int .i64 0, .int .i64 0, .int .i64 1, .int .i64 1, .int .i64 2, .int .i64 3, .int .i64 (-1), .int .i64 4, .int .i64 1, .int .i64 0, .int .i64 1, .int .i64 0, .int .i64 0] 3))) (below_alloc_self _ (.cells #[.int .i64 0, .int .i64 0, .int .i64 0, .int .i64 0, .int .i64 0, .int .i64 0, .int .i64 0, .int .i64 1, .int .i64 1, .int .i64 2, .int .i64 3, .int .i64 (-1), .int .i64 4, .int .i64 2, .int .i64 0, .int .i64 1, .int .i64 0, .int .i64 0] 3))) (below_alloc_self _ (.cells #[.int .i64 0, .int .i64 0, .int .i64 0, .int .i64 0, .int .i64 0, .int .i64 0, .int .i64 0, .int .i64 1, .int .i64 1, .int .i64 2, .int .i64 3, .int .i64 (-1), .int .i64 4, .int .i64 1, .int .i64 0, .int .i64 (-1), .int .i64 0, .int .i64 0] 3))) (below_alloc_self _ (.cells #[.int .i64 0, .int .i64 0, .int .i64 0, .int .i64 0, .int .i64 0, .int .i64 0, .int .i64 0, .int .i64 0, .int .i64 2, .int .i64 7, .int .i64 8, .int .i64 2] 3))) (below_alloc_self _ (.cells #[.int .i64 0, .int .i64 0, .int .i64 0, .int .i64 0, .int .i64 0, .int .i64 0, .int .i64 0, .int .i64 0, .int .i64 2, .int .i64 7, .int .i64 2] 3))) (below_alloc_self _ (.cells #[.slice (some ⟨w.heap.size, 0, none⟩) 10 10, .bool true, .slice (some ⟨w.heap.size + 1, 0, none⟩) 9 9, .bool false, .slice (some ⟨w.heap.size + 2, 0, none⟩) 11 11, .bool false, .slice (some ⟨w.heap.size + 3, 0, none⟩) 12 12, .bool true, .slice (some ⟨w.heap.size + 4, 0, none⟩) 10 10, .bool false, .slice (some ⟨w.heap.size + 5, 0, none⟩) 10 10, .bool false, .slice (some ⟨w.heap.size + 6, 0, none⟩) 10 10, .bool false, .slice (some ⟨w.heap.size + 7, 0, none⟩) 18 18, .bool true, .slice (some ⟨w.heap.size + 8, 0, none⟩) 18 18, .bool false, .slice (some ⟨w.heap.size + 9, 0, none⟩) 18 18, .bool false, .slice (some ⟨w.heap.size + 10, 0, none⟩) 12 12, .bool true, .slice (some ⟨w.heap.size + 11, 0, none⟩) 11 11, .bool false] 84)))
  have XR4 := (heap_keep (heap_keep (heap_keep (heap_keep (heap_keep (heap_keep (heap_keep (heap_keep (heap_at_new (W := ((((w.alloc (.cells #[.int .i64 0, .int .i64 0, .int .i64 0, .int .i64 0, .int .i64 0, .int .i64 0, .int .i64 0, .int .i64 0, .int .i64 0, .int .i64 0] 3)).alloc (.cells #[.int .i64 0, .int .i64 0, .int .i64 0, .int .i64 0, .int .i64 0, .int .i64 0, .int .i64 0, .int .i64 0, .int .i64 0] 3)).alloc (.cells #[.int .i64 0, .int .i64 0, .int .i64 0, .int .i64 0, .int .i64 0, .int .i64 0, .int .i64 0, .int .i64 0, .int .i64 0, .int .i64 0, .int .i64 0] 3)).alloc (.cells #[.int .i64 1, .int .i64 2, .int .i64 3, .int .i64 4, .int .i64 1, .int .i64 9, .int .i64 1, .int .i64 5, .int .i64 (-1), .int .i64 0, .int .i64 0, .int .i64 1] 3))) (o := (.cells #[.int .i64 0, .int .i64 0, .int .i64 0, .int .i64 0, .int .i64 1, .int .i64 0, .int .i64 0, .int .i64 0, .int .i64 0, .int .i64 0] 3)) (g := w.heap.size + 4) (by simp) : (((((w.alloc (.cells #[.int .i64 0, .int .i64 0, .int .i64 0, .int .i64 0, .int .i64 0, .int .i64 0, .int .i64 0, .int .i64 0, .int .i64 0, .int .i64 0] 3)).alloc (.cells #[.int .i64 0, .int .i64 0, .int .i64 0, .int .i64 0, .int .i64 0, .int .i64 0, .int .i64 0, .int .i64 0, .int .i64 0] 3)).alloc (.cells #[.int .i64 0, .int .i64 0, .int .i64 0, .int .i64 0, .int .i64 0, .int .i64 0, .int .i64 0, .int .i64 0, .int .i64 0, .int .i64 0, .int .i64 0] 3)).alloc (.cells #[.int .i64 1, .int .i64 2, .int .i64 3, .int .i64 4, .int .i64 1, .int .i64 9, .int .i64 1, .int .i64 5, .int .i64 (-1), .int .i64 0, .int .i64 0, .int .i64 1] 3)).alloc (.cells #[.int .i64 0, .int .i64 0, .int .i64 0, .int .i64 0, .int .i64 1, .int .i64 0, .int .i64 0, .int .i64 0, .int .i64 0, .int .i64 0] 3)).heap[w.heap.size + 4]? = some (.cells #[.int .i64 0, .int .i64 0, .int .i64 0, .int .i64 0, .int .i64 1, .int .i64 0, .int .i64 0, .int .i64 0, .int .i64 0, .int .i64 0] 3)) (below_alloc_self _ (.cells #[.int .i64 0, .int .i64 0, .int .i64 0, .int .i64 0, .int .i64 (-1), .int .i64 0, .int .i64 0, .int .i64 0, .int .i64 0, .int .i64 0] 3))) (below_alloc_self _ (.cells #[.int .i64 0, .int .i64 0, .int .i64 0, .int .i64 0, .int .i64 1099511627776, .int .i64 0, .int .i64 0, .int .i64 0, .int .i64 0, .int .i64 0] 3))) (below_alloc_self _ (.cells #[.int .i64 0, .int .i64 0, .int .i64 0, .int .i64 0, .int .i64 0, .int .i64 0, .int .i64 0, .int .i64 1, .int .i64 1, .int .i64 2, .int .i64 3, .int .i64 (-1), .int .i64 4, .int .i64 1, .int .i64 0, .int .i64 1, .int .i64 0, .int .i64 0] 3))) (below_alloc_self _ (.cells #[.int .i64 0, .int .i64 0, .int .i64 0, .int .i64 0, .int .i64 0, .int .i64 0, .int .i64 0, .int .i64 1, .int .i64 1, .int .i64 2, .int .i64 3, .int .i64 (-1), .int .i64 4, .int .i64 2, .int .i64 0, .int .i64 1, .int .i64 0, .int .i64 0] 3))) (below_alloc_self _ (.cells #[.int .i64 0, .int .i64 0, .int .i64 0, .int .i64 0, .int .i64 0, .int .i64 0, .int .i64 0, .int .i64 1, .int .i64 1, .int .i64 2, .int .i64 3, .int .i64 (-1), .int .i64 4, .int .i64 1, .int .i64 0, .int .i64 (-1), .int .i64 0, .int .i64 0] 3))) (below_alloc_self _ (.cells #[.int .i64 0, .int .i64 0, .int .i64 0, .int .i64 0, .int .i64 0, .int .i64 0, .int .i64 0, .int .i64 0, .int .i64 2, .int .i64 7, .int .i64 8, .int .i64 2] 3))) (below_alloc_self _ (.cells #[.int .i64 0, .int .i64 0, .int .i64 0, .int .i64 0, .int .i64 0, .int .i64 0, .int .i64 0, .int .i64 0, .int .i64 2, .int .i64 7, .int .i64 2] 3))) (below_alloc_self _ (.cells #[.slice (some ⟨w.heap.size, 0, none⟩) 10 10, .bool true, .slice (some ⟨w.heap.size + 1, 0, none⟩) 9 9, .bool false, .slice (some ⟨w.heap.size + 2, 0, none⟩) 11 11, .bool false, .slice (some ⟨w.heap.size + 3, 0, none⟩) 12 12, .bool true, .slice (some ⟨w.heap.size + 4, 0, none⟩) 10 10, .bool false, .slice (some ⟨w.heap.size + 5, 0, none⟩) 10 10, .bool false, .slice (some ⟨w.heap.size + 6, 0, none⟩) 10 10, .bool false, .slice (some ⟨w.heap.size + 7, 0, none⟩) 18 18, .bool true, .slice (some ⟨w.heap.size + 8, 0, none⟩) 18 18, .bool false, .slice (some ⟨w.heap.size + 9, 0, none⟩) 18 18, .bool false, .slice (some ⟨w.heap.size + 10, 0, none⟩) 12 12, .bool true, .slice (some ⟨w.heap.size + 11, 0, none⟩) 11 11, .bool false] 84)))
  have XR5 := (heap_keep (heap_keep (heap_keep (heap_keep (heap_keep (heap_keep (heap_keep (heap_at_new (W := (((((w.alloc (.cells #[.int .i64 0, .int .i64 0, .int .i64 0, .int .i64 0, .int .i64 0, .int .i64 0, .int .i64 0, .int .i64 0, .int .i64 0, .int .i64 0] 3)).alloc (.cells #[.int .i64 0, .int .i64 0, .int .i64 0, .int .i64 0, .int .i64 0, .int .i64 0, .int .i64 0, .int .i64 0, .int .i64 0] 3)).alloc (.cells #[.int .i64 0, .int .i64 0, .int .i64 0, .int .i64 0, .int .i64 0, .int .i64 0, .int .i64 0, .int .i64 0, .int .i64 0, .int .i64 0, .int .i64 0] 3)).alloc (.cells #[.int .i64 1, .int .i64 2, .int .i64 3, .int .i64 4, .int .i64 1, .int .i64 9, .int .i64 1, .int .i64 5, .int .i64 (-1), .int .i64 0, .int .i64 0, .int .i64 1] 3)).alloc (.cells #[.int .i64 0, .int .i64 0, .int .i64 0, .int .i64 0, .int .i64 1, .int .i64 0, .int .i64 0, .int .i64 0, .int .i64 0, .int .i64 0] 3))) (o := (.cells #[.int .i64 0, .int .i64 0, .int .i64 0, .int .i64 0, .int .i64 (-1), .int .i64 0, .int .i64 0, .int .i64 0, .int .i64 0, .int .i64 0] 3)) (g := w.heap.size + 5) (by simp) : ((((((w.alloc (.cells #[.int .i64 0, .int .i64 0, .int .i64 0, .int .i64 0, .int .i64 0, .int .i64 0, .int .i64 0, .int .i64 0, .int .i64 0, .int .i64 0] 3)).alloc (.cells #[.int .i64 0, .int .i64 0, .int .i64 0, .int .i64 0, .int .i64 0, .int .i64 0, .int .i64 0, .int .i64 0, .int .i64 0] 3)).alloc (.cells #[.int .i64 0, .int .i64 0, .int .i64 0, .int .i64 0, .int .i64 0, .int .i64 0, .int .i64 0, .int .i64 0, .int .i64 0, .int .i64 0, .int .i64 0] 3)).alloc (.cells #[.int .i64 1, .int .i64 2, .int .i64 3, .int .i64 4, .int .i64 1, .int .i64 9, .int .i64 1, .int .i64 5, .int .i64 (-1), .int .i64 0, .int .i64 0, .int .i64 1] 3)).alloc (.cells #[.int .i64 0, .int .i64 0, .int .i64 0, .int .i64 0, .int .i64 1, .int .i64 0, .int .i64 0, .int .i64 0, .int .i64 0, .int .i64 0] 3)).alloc (.cells #[.int .i64 0, .int .i64 0, .int .i64 0, .int .i64 0, .int .i64 (-1), .int .i64 0, .int .i64 0, .int .i64 0, .int .i64 0, .int .i64 0] 3)).heap[w.heap.size + 5]? = some (.cells #[.int .i64 0, .int .i64 0, .int .i64 0, .int .i64 0, .int .i64 (-1), .int .i64 0, .int .i64 0, .int .i64 0, .int .i64 0, .int .i64 0] 3)) (below_alloc_self _ (.cells #[.int .i64 0, .int .i64 0, .int .i64 0, .int .i64 0, .int .i64 1099511627776, .int .i64 0, .int .i64 0, .int .i64 0, .int .i64 0, .int .i64 0] 3))) (below_alloc_self _ (.cells #[.int .i64 0, .int .i64 0, .int .i64 0, .int .i64 0, .int .i64 0, .int .i64 0, .int .i64 0, .int .i64 1, .int .i64 1, .int .i64 2, .int .i64 3, .int .i64 (-1), .int .i64 4, .int .i64 1, .int .i64 0, .int .i64 1, .int .i64 0, .int .i64 0] 3))) (below_alloc_self _ (.cells #[.int .i64 0, .int .i64 0, .int .i64 0, .int .i64 0, .int .i64 0, .int .i64 0, .int .i64 0, .int .i64 1, .int .i64 1, .int .i64 2, .int .i64 3, .int .i64 (-1), .int .i64 4, .int .i64 2, .int .i64 0, .int .i64 1, .int .i64 0, .int .i64 0] 3))) (below_alloc_self _ (.cells #[.int .i64 0, .int .i64 0, .int .i64 0, .int .i64 0, .int .i64 0, .int .i64 0, .int .i64 0, .int .i64 1, .int .i64 1, .int .i64 2, .int .i64 3, .int .i64 (-1), .int .i64 4, .int .i64 1, .int .i64 0, .int .i64 (-1), .int .i64 0, .int .i64 0] 3))) (below_alloc_self _ (.cells #[.int .i64 0, .int .i64 0, .int .i64 0, .int .i64 0, .int .i64 0, .int .i64 0, .int .i64 0, .int .i64 0, .int .i64 2, .int .i64 7, .int .i64 8, .int .i64 2] 3))) (below_alloc_self _ (.cells #[.int .i64 0, .int .i64 0, .int .i64 0, .int .i64 0, .int .i64 0, .int .i64 0, .int .i64 0, .int .i64 0, .int .i64 2, .int .i64 7, .int .i64 2] 3))) (below_alloc_self _ (.cells #[.slice (some ⟨w.heap.size, 0, none⟩) 10 10, .bool true, .slice (some ⟨w.heap.size + 1, 0, none⟩) 9 9, .bool false, .slice (some ⟨w.heap.size + 2, 0, none⟩) 11 11, .bool false, .slice (some ⟨w.heap.size + 3, 0, none⟩) 12 12, .bool true, .slice (some ⟨w.heap.size + 4, 0, none⟩) 10 10, .bool false, .slice (some ⟨w.heap.size + 5, 0, none⟩) 10 10, .bool false, .slice (some ⟨w.heap.size + 6, 0, none⟩) 10 10, .bool false, .slice (some ⟨w.heap.size + 7, 0, none⟩) 18 18, .bool true, .slice (some ⟨w.heap.size + 8, 0, none⟩) 18 18, .bool false, .slice (some ⟨w.heap.size + 9, 0, none⟩) 18 18, .bool false, .slice (some ⟨w.heap.size + 10, 0, none⟩) 12 12, .bool true, .slice (some ⟨w.heap.size + 11, 0, none⟩) 11 11, .bool false] 84)))
  have XR6 := (heap_keep (heap_keep (heap_keep (heap_keep (heap_keep (heap_keep (heap_at_new (W := ((((((w.alloc (.cells #[.int .i64 0, .int .i64 0, .int .i64 0, .int .i64 0, .int .i64 0, .int .i64 0, .int .i64 0, .int .i64 0, .int .i64 0, .int .i64 0] 3)).alloc (.cells #[.int .i64 0, .int .i64 0, .int .i64 0, .int .i64 0, .int .i64 0, .int .i64 0, .int .i64 0, .int .i64 0, .int .i64 0] 3)).alloc (.cells #[.int .i64 0, .int .i64 0, .int .i64 0, .int .i64 0, .int .i64 0, .int .i64 0, .int .i64 0, .int .i64 0, .int .i64 0, .int .i64 0, .int .i64 0] 3)).alloc (.cells #[.int .i64 1, .int .i64 2, .int .i64 3, .int .i64 4, .int .i64 1, .int .i64 9, .int .i64 1, .int .i64 5, .int .i64 (-1), .int .i64 0, .int .i64 0, .int .i64 1] 3)).alloc (.cells #[.int .i64 0, .int .i64 0, .int .i64 0, .int .i64 0, .int .i64 1, .int .i64 0, .int .i64 0, .int .i64 0, .int .i64 0, .int .i64 0] 3)).alloc (.cells #[.int .i64 0, .int .i64 0, .int .i64 0, .int .i64 0, .int .i64 (-1), .int .i64 0, .int .i64 0, .int .i64 0, .int .i64 0, .int .i64 0] 3))) (o := (.cells #[.int .i64 0, .int .i64 0, .int .i64 0, .int .i64 0, .int .i64 1099511627776, .int .i64 0, .int .i64 0, .int .i64 0, .int .i64 0, .int .i64 0] 3)) (g := w.heap.size + 6) (by simp) : (((((((w.alloc (.cells #[.int .i64 0, .int .i64 0, .int .i64 0, .int .i64 0, .int .i64 0, .int .i64 0, .int .i64 0, .int .i64 0, .int .i64 0, .int .i64 0] 3)).alloc (.cells #[.int .i64 0, .int .i64 0, .int .i64 0, .int .i64 0, .int .i64 0, .int .i64 0, .int .i64 0, .int .i64 0, .int .i64 0] 3)).alloc (.cells #[.int .i64 0, .int .i64 0, .int .i64 0, .int .i64 0, .int .i64 0, .int .i64 0, .int .i64 0, .int .i64 0, .int .i64 0, .int .i64 0, .int .i64 0] 3)).alloc (.cells #[.int .i64 1, .int .i64 2, .int .i64 3, .int .i64 4, .int .i64 1, .int .i64 9, .int .i64 1, .int .i64 5, .int .i64 (-1), .int .i64 0, .int .i64 0, .int .i64 1] 3)).alloc (.cells #[.int .i64 0, .int .i64 0, .int .i64 0, .int .i64 0, .int .i64 1, .int .i64 0, .int .i64 0, .int .i64 0, .int .i64 0, .int .i64 0] 3)).alloc (.cells #[.int .i64 0, .int .i64 0, .int .i64 0, .int .i64 0, .int .i64 (-1), .int .i64 0, .int .i64 0, .int .i64 0, .int .i64 0, .int .i64 0] 3)).alloc (.cells #[.int .i64 0, .int .i64 0, .int .i64 0, .int .i64 0, .int .i64 1099511627776, .int .i64 0, .int .i64 0, .int .i64 0, .int .i64 0, .int .i64 0] 3)).heap[w.heap.size + 6]? = some (.cells #[.int .i64 0, .int .i64 0, .int .i64 0, .int .i64 0, .int .i64 1099511627776, .int .i64 0, .int .i64 0, .int .i64 0, .int .i64 0, .int .i64 0] 3)) (below_alloc_self _ (.cells #[.int .i64 0, .int .i64 0, .int .i64 0, .int .i64 0, .int .i64 0, .int .i64 0, .int .i64 0, .int .i64 1, .int .i64 1, .int .i64 2, .int .i64 3, .int .i64 (-1), .int .i64 4, .int .i64 1, .int .i64 0, .int .i64 1, .int .i64 0, .int .i64 0] 3))) (below_alloc_self _ (.cells #[.int .i64 0, .int .i64 0, .int .i64 0, .int .i64 0, .int .i64 0, .int .i64 0, .int .i64 0, .int .i64 1, .int .i64 1, .int .i64 2, .int .i64 3, .int .i64 (-1), .int .i64 4, .int .i64 2, .int .i64 0, .int .i64 1, .int .i64 0, .int .i64 0] 3))) (below_alloc_self _ (.cells #[.int .i64 0, .int .i64 0, .int .i64 0, .int .i64 0, .int .i64 0, .int .i64 0, .int .i64 0, .int .i64 1, .int .i64 1, .int .i64 2, .int .i64 3, .int .i64 (-1), .int .i64 4, .int .i64 1, .int .i64 0, .int .i64 (-1), .int .i64 0, .int .i64 0] 3))) (below_alloc_self _ (.cells #[.int .i64 0, .int .i64 0, .int .i64 0, .int .i64 0, .int .i64 0, .int .i64 0, .int .i64 0, .int .i64 0, .int .i64 2, .int .i64 7, .int .i64 8, .int .i64 2] 3))) (below_alloc_self _ (.cells #[.int .i64 0, .int .i64 0, .int .i64 0, .int .i64 0, .int .i64 0, .int .i64 0, .int .i64 0, .int .i64 0, .int .i64 2, .int .i64 7, .int .i64 2] 3))) (below_alloc_self _ (.cells #[.slice (some ⟨w.heap.size, 0, none⟩) 10 10, .bool true, .slice (some ⟨w.heap.size + 1, 0, none⟩) 9 9, .bool false, .slice (some ⟨w.heap.size + 2, 0, none⟩) 11 11, .bool false, .slice (some ⟨w.heap.size + 3, 0, none⟩) 12 12, .bool true, .slice (some ⟨w.heap.size + 4, 0, none⟩) 10 10, .bool false, .slice (some ⟨w.heap.size + 5, 0, none⟩) 10 10, .bool false, .slice (some ⟨w.heap.size + 6, 0, none⟩) 10 10, .bool false, .slice (some ⟨w.heap.size + 7, 0, none⟩) 18 18, .bool true, .slice (some ⟨w.heap.size + 8, 0, none⟩) 18 18, .bool false, .slice (some ⟨w.heap.size + 9, 0, none⟩) 18 18, .bool false, .slice (some ⟨w.heap.size + 10, 0, none⟩) 12 12, .bool true, .slice (some ⟨w.heap.size + 11, 0, none⟩) 11 11, .bool false] 84)))
  have XR7 := (heap_keep (heap_keep (heap_keep (heap_keep (heap_keep (heap_at_new (W := (((((((w.alloc (.cells #[.int .i64 0, .int .i64 0, .int .i64 0, .int .i64 0, .int .i64 0, .int .i64 0, .int .i64 0, .int .i64 0, .int .i64 0, .int .i64 0] 3)).alloc (.cells #[.int .i64 0, .int .i64 0, .int .i64 0, .int .i64 0, .int .i64 0, .int .i64 0, .int .i64 0, .int .i64 0, .int .i64 0] 3)).alloc (.cells #[.int .i64 0, .int .i64 0, .int .i64 0, .int .i64 0, .int .i64 0, .int .i64 0, .int .i64 0, .int .i64 0, .int .i64 0, .int .i64 0, .int .i64 0] 3)).alloc (.cells #[.int .i64 1, .int .i64 2, .int .i64 3, .int .i64 4, .int .i64 1, .int .i64 9, .int .i64 1, .int .i64 5, .int .i64 (-1), .int .i64 0, .int .i64 0, .int .i64 1] 3)).alloc (.cells #[.int .i64 0, .int .i64 0, .int .i64 0, .int .i64 0, .int .i64 1, .int .i64 0, .int .i64 0, .int .i64 0, .int .i64 0, .int .i64 0] 3)).alloc (.cells #[.int .i64 0, .int .i64 0, .int .i64 0, .int .i64 0, .int .i64 (-1), .int .i64 0, .int .i64 0, .int .i64 0, .int .i64 0, .int .i64 0] 3)).alloc (.cells #[.int .i64 0, .int .i64 0, .int .i64 0, .int .i64 0, .int .i64 1099511627776, .int .i64 0, .int .i64 0, .int .i64 0, .int .i64 0, .int .i64 0] 3))) (o := (.cells #[.int .i64 0, .int .i64 0, .int .i64 0, .int .i64 0, .int .i64 0, .int .i64 0, .int .i64 0, .int .i64 1, .int .i64 1, .int .i64 2, .int .i64 3, .int .i64 (-1), .int .i64 4, .int .i64 1, .int .i64 0, .int .i64 1, .int .i64 0, .int .i64 0] 3)) (g := w.heap.size + 7) (by simp) : ((((((((w.alloc (.cells #[.int .i64 0, .int .i64 0, .int .i64 0, .int .i64 0, .int .i64 0, .int .i64 0, .int .i64 0, .int .i64 0, .int .i64 0, .int .i64 0] 3)).alloc (.cells #[.int .i64 0, .int .i64 0, .int .i64 0, .int .i64 0, .int .i64 0, .int .i64 0, .int .i64 0, .int .i64 0, .int .i64 0] 3)).alloc (.cells #[.int .i64 0, .int .i64 0, .int .i64 0, .int .i64 0, .int .i64 0, .int .i64 0, .int .i64 0, .int .i64 0, .int .i64 0, .int .i64 0, .int .i64 0] 3)).alloc (.cells #[.int .i64 1, .int .i64 2, .int .i64 3, .int .i64 4, .int .i64 1, .int .i64 9, .int .i64 1, .int .i64 5, .int .i64 (-1), .int .i64 0, .int .i64 0, .int .i64 1] 3)).alloc (.cells #[.int .i64 0, .int .i64 0, .int .i64 0, .int .i64 0, .int .i64 1, .int .i64 0, .int .i64 0, .int .i64 0, .int .i64 0, .int .i64 0] 3)).alloc (.cells #[.int .i64 0, .int .i64 0, .int .i64 0, .int .i64 0, .int .i64 (-1), .int .i64 0, .int .i64 0, .int .i64 0, .int .i64 0, .int .i64 0] 3)).alloc (.cells #[.int .i64 0, .int .i64 0, .int .i64 0, .int .i64 0, .int .i64 1099511627776, .int .i64 0, .int .i64 0, .int .i64 0, .int .i64 0, .int .i64 0] 3)).alloc (.cells #[.int .i64 0, .int .i64 0, .int .i64 0, .int .i64 0, .int .i64 0, .int .i64 0, .int .i64 0, .int .i64 1, .int .i64 1, .int .i64 2, .int .i64 3, .int .i64 (-1), .int .i64 4, .int .i64 1, .int .i64 0, .int .i64 1, .int .i64 0, .int .i64 0] 3)).heap[w.heap.size + 7]? = some (.cells #[.int .i64 0, .int .i64 0, .int .i64 0, .int .i64 0, .int .i64 0, .int .i64 0, .int .i64 0, .int .i64 1, .int .i64 1, .int .i64 2, .int .i64 3, .int .i64 (-1), .int .i64 4, .int .i64 1, .int .i64 0, .int .i64 1, .int .i64 0, .int .i64 0] 3)) (below_alloc_self _ (.cells #[.int .i64 0, .int .i64 0, .int .i64 0, .int .i64 0, .int .i64 0, .int .i64 0, .int .i64 0, .int .i64 1, .int .i64 1, .int .i64 2, .int .i64 3, .int .i64 (-1), .int .i64 4, .int .i64 2, .int .i64 0, .int .i64 1, .int .i64 0, .int .i64 0] 3))) (below_alloc_self _ (.cells #[.int .i64 0, .int .i64 0, .int .i64 0, .int .i64 0, .int .i64 0, .int .i64 0, .int .i64 0, .int .i64 1, .int .i64 1, .int .i64 2, .int .i64 3, .int .i64 (-1), .int .i64 4, .int .i64 1, .int .i64 0, .int .i64 (-1), .int .i64 0, .int .i64 0] 3))) (below_alloc_self _ (.cells #[.int .i64 0, .int .i64 0, .int .i64 0, .int .i64 0, .int .i64 0, .int .i64 0, .int .i64 0, .int .i64 0, .int .i64 2, .int .i64 7, .int .i64 8, .int .i64 2] 3))) (below_alloc_self _ (.cells #[.int .i64 0, .int .i64 0, .int .i64 0, .int .i64 0, .int .i64 0, .int .i64 0, .int .i64 0, .int .i64 0, .int .i64 2, .int .i64 7, .int .i64 2] 3))) (below_alloc_self _ (.cells #[.slice (some ⟨w.heap.size, 0, none⟩) 10 10, .bool true, .slice (some ⟨w.heap.size + 1, 0, none⟩) 9 9, .bool false, .slice (some ⟨w.heap.size + 2, 0, none⟩) 11 11, .bool false, .slice (some ⟨w.heap.size + 3, 0, none⟩) 12 12, .bool true, .slice (some ⟨w.heap.size + 4, 0, none⟩) 10 10, .bool false, .slice (some ⟨w.heap.size + 5, 0, none⟩) 10 10, .bool false, .slice (some ⟨w.heap.size + 6, 0, none⟩) 10 10, .bool false, .slice (some ⟨w.heap.size + 7, 0, none⟩) 18 18, .bool true, .slice (some ⟨w.heap.size + 8, 0, none⟩) 18 18, .bool false, .slice (some ⟨w.heap.size + 9, 0, none⟩) 18 18, .bool false, .slice (some ⟨w.heap.size + 10, 0, none⟩) 12 12, .bool true, .slice (some ⟨w.heap.size + 11, 0, none⟩) 11 11, .bool false] 84)))
  have XR8 := (heap_keep (heap_keep (heap_keep (heap_keep (heap_at_new (W := ((((((((w.alloc (.cells #[.int .i64 0, .int .i64 0, .int .i64 0, .int .i64 0, .int .i64 0, .int .i64 0, .int .i64 0, .int .i64 0, .int .i64 0, .int .i64 0] 3)).alloc (.cells #[.int .i64 0, .int .i64 0, .int .i64 0, .int .i64 0, .int .i64 0, .int .i64 0, .int .i64 0, .int .i64 0, .int .i64 0] 3)).alloc (.cells #[.int .i64 0, .int .i64 0, .int .i64 0, .int .i64 0, .int .i64 0, .int .i64 0, .int .i64 0, .int .i64 0, .int .i64 0, .int .i64 0, .int .i64 0] 3)).alloc (.cells #[.int .i64 1, .int .i64 2, .int .i64 3, .int .i64 4, .int .i64 1, .int .i64 9, .int .i64 1, .int .i64 5, .int .i64 (-1), .int .i64 0, .int .i64 0, .int .i64 1] 3)).alloc (.cells #[.int .i64 0, .int .i64 0, .int .i64 0, .int .i64 0, .int .i64 1, .int .i64 0, .int .i64 0, .int .i64 0, .int .i64 0, .int .i64 0] 3)).alloc (.cells #[.int .i64 0, .int .i64 0, .int .i64 0, .int .i64 0, .int .i64 (-1), .int .i64 0, .int .i64 0, .int .i64 0, .int .i64 0, .int .i64 0] 3)).alloc (.cells #[.int .i64 0, .int .i64 0, .int .i64 0, .int .i64 0, .int .i64 1099511627776, .int .i64 0, .int .i64 0, .int .i64 0, .int .i64 0, .int .i64 0] 3)).alloc (.cells #[.int .i64 0, .int .i64 0, .int .i64 0, .int .i64 0, .int .i64 0, .int .i64 0, .int .i64 0, .int .i64 1, .int .i64 1, .int .i64 2, .int .i64 3, .int .i64 (-1), .int .i64 4, .int .i64 1, .int .i64 0, .int .i64 1, .int .i64 0, .int .i64 0] 3))) (o := (.cells #[.int .i64 0, .int .i64 0, .int .i64 0, .int .i64 0, .int .i64 0, .int .i64 0, .int .i64 0, .int .i64 1, .int .i64 1, .int .i64 2, .int .i64 3, .int .i64 (-1), .int .i64 4, .int .i64 2, .int .i64 0, .int .i64 1, .int .i64 0, .int .i64 0] 3)) (g := w.heap.size + 8) (by simp) : (((((((((w.alloc (.cells #[.int .i64 0, .int .i64 0, .int .i64 0, .int .i64 0, .int .i64 0, .int .i64 0, .int .i64 0, .int .i64 0, .int .i64 0, .int .i64 0] 3)).alloc (.cells #[.int .i64 0, .int .i64 0, .int .i64 0, .int .i64 0, .int .i64 0, .int .i64 0, .int .i64 0, .int .i64 0, .int .i64 0] 3)).alloc (.cells #[.int .i64 0, .int .i64 0, .int .i64 0, .int .i64 0, .int .i64 0, .int .i64 0, .int .i64 0, .int .i64 0, .int .i64 0, .int .i64 0, .int .i64 0] 3)).alloc (.cells #[.int .i64 1, .int .i64 2, .int .i64 3, .int .i64 4, .int .i64 1, .int .i64 9, .int .i64 1, .int .i64 5, .int .i64 (-1), .int .i64 0, .int .i64 0, .int .i64 1] 3)).alloc (.cells #[.int .i64 0, .int .i64 0, .int .i64 0, .int .i64 0, .int .i64 1, .int .i64 0, .int .i64 0, .int .i64 0, .int .i64 0, .int .i64 0] 3)).alloc (.cells #[.int .i64 0, .int .i64 0, .int .i64 0, .int .i64 0, .int .i64 (-1), .int .i64 0, .int .i64 0, .int .i64 0, .int .i64 0, .int .i64 0] 3)).alloc (.cells #[.int .i64 0, .int .i64 0, .int .i64 0, .int .i64 0, .int .i64 1099511627776, .int .i64 0, .int .i64 0, .int .i64 0, .int .i64 0, .int .i64 0] 3)).alloc (.cells #[.int .i64 0, .int .i64 0, .int .i64 0, .int .i64 0, .int .i64 0, .int .i64 0, .int .i64 0, .int .i64 1, .int .i64 1, .int .i64 2, .int .i64 3, .int .i64 (-1), .int .i64 4, .int .i64 1, .int .i64 0, .int .i64 1, .int .i64 0, .int .i64 0] 3)).alloc (.cells #[.int .i64 0, .int .i64 0, .int .i64 0, .int .i64 0, .int .i64 0, .int .i64 0, .int .i64 0, .int .i64 1, .int .i64 1, .int .i64 2, .int .i64 3, .int .i64 (-1), .int .i64 4, .int .i64 2, .int .i64 0, .int .i64 1, .int .i64 0, .int .i64 0] 3)).heap[w.heap.size + 8]? = some (.cells #[.int .i64 0, .int .i64 0, .int .i64 0, .int .i64 0, .int .i64 0, .int .i64 0, .int .i64 0, .int .i64 1, .int .i64 1, .int .i64 2, .int .i64 3, .int .i64 (-1), .int .i64 4, .int .i64 2, .int .i64 0, .int .i64 1, .int .i64 0, .int .i64 0] 3)) (below_alloc_self _ (.cells #[.int .i64 0, .int .i64 0, .int .i64 0, .int .i64 0, .int .i64 0, .int .i64 0, .int .i64 0, .int .i64 1, .int .i64 1, .int .i64 2, .int .i64 3, .int .i64 (-1), .int .i64 4, .int .i64 1, .int .i64 0, .int .i64 (-1), .int .i64 0, .int .i64 0] 3))) (below_alloc_self _ (.cells #[.int .i64 0, .int .i64 0, .int .i64 0, .int .i64 0, .int .i64 0, .int .i64 0, .int .i64 0, .int .i64 0, .int .i64 2, .int .i64 7, .int .i64 8, .int .i64 2] 3))) (below_alloc_self _ (.cells #[.int .i64 0, .int .i64 0, .int .i64 0, .int .i64 0, .int .i64 0, .int .i64 0, .int .i64 0, .int .i64 0, .int .i64 2, .int .i64 7, .int .i64 2] 3))) (below_alloc_self _ (.cells #[.slice (some ⟨w.heap.size, 0, none⟩) 10 10, .bool true, .slice (some ⟨w.heap.size + 1, 0, none⟩) 9 9, .bool false, .slice (some ⟨w.heap.size + 2, 0, none⟩) 11 11, .bool false, .slice (some ⟨w.heap.size + 3, 0, none⟩) 12 12, .bool true, .slice (some ⟨w.heap.size + 4, 0, none⟩) 10 10, .bool false, .slice (some ⟨w.heap.size + 5, 0, none⟩) 10 10, .bool false, .slice (some ⟨w.heap.size + 6, 0, none⟩) 10 10, .bool false, .slice (some ⟨w.heap.size + 7, 0, none⟩) 18 18, .bool true, .slice (some ⟨w.heap.size + 8, 0, none⟩) 18 18, .bool false, .slice (some ⟨w.heap.size + 9, 0, none⟩) 18 18, .bool false, .slice (some ⟨w.heap.size + 10, 0, none⟩) 12 12, .bool true, .slice (some ⟨w.heap.size + 11, 0, none⟩) 11 11, .bool false] 84)))
  have XR9 := (heap_keep (heap_keep (heap_keep (heap_at_new (W := (((((((((w.alloc (.cells #[.int .i64 0, .int .i64 0, .int .i64 0, .int .i64 0, .int .i64 0, .int .i64 0, .int .i64 0, .int .i64 0, .int .i64 0, .int .i64 0] 3)).alloc (.cells #[.int .i64 0, .int .i64 0, .int .i64 0, .int .i64 0, .int .i64 0, .int .i64 0, .int .i64 0, .int .i64 0, .int .i64 0] 3)).alloc (.cells #[.int .i64 0, .int .i64 0, .int .i64 0, .int .i64 0, .int .i64 0, .int .i64 0, .int .i64 0, .int .i64 0, .int .i64 0, .int .i64 0, .int .i64 0] 3)).alloc (.cells #[.int .i64 1, .int .i64 2, .int .i64 3, .int .i64 4, .int .i64 1, .int .i64 9, .int .i64 1, .int .i64 5, .int .i64 (-1), .int .i64 0, .int .i64 0, .int .i64 1] 3)).alloc (.cells #[.int .i64 0, .int .i64 0, .int .i64 0, .int .i64 0, .int .i64 1, .int .i64 0, .int .i64 0, .int .i64 0, .int .i64 0, .int .i64 0] 3)).alloc (.cells #[.int .i64 0, .int .i64 0, .int .i64 0, .int .i64 0, .int .i64 (-1), .int .i64 0, .int .i64 0, .int .i64 0, .int .i64 0, .int .i64 0] 3)).alloc (.cells #[.int .i64 0, .int .i64 0, .int .i64 0, .int .i64 0, .int .i64 1099511627776, .int .i64 0, .int .i64 0, .int .i64 0, .int .i64 0, .int .i64 0] 3)).alloc (.cells #[.int .i64 0, .int .i64 0, .int .i64 0, .int .i64 0, .int .i64 0, .int .i64 0, .int .i64 0, .int .i64 1, .int .i64 1, .int .i64 2, .int .i64 3, .int .i64 (-1), .int .i64 4, .int .i64 1, .int .i64 0, .int .i64 1, .int .i64 0, .int .i64 0] 3)).alloc (.cells #[.int .i64 0, .int .i64 0, .int .i64 0, .int .i64 0, .int .i64 0, .int .i64 0, .int .i64 0, .int .i64 1, .int .i64 1, .int .i64 2, .int .i64 3, .int .i64 (-1), .int .i64 4, .int .i64 2, .int .i64 0, .int .i64 1, .int .i64 0, .int .i64 0] 3))) (o := (.cells #[.int .i64 0, .int .i64 0, .int .i64 0, .int .i64 0, .int .i64 0, .int .i64 0, .int .i64 0, .int .i64 1, .int .i64 1, .int .i64 2, .int .i64 3, .int .i64 (-1), .int .i64 4, .int .i64 1, .int .i64 0, .int .i64 (-1), .int .i64 0, .int .i64 0] 3)) (g := w.heap.size + 9) (by simp) : ((((((((((w.alloc (.cells #[.int .i64 0, .int .i64 0, .int .i64 0, .int .i64 0, .int .i64 0, .int .i64 0, .int .i64 0, .int .i64 0, .int .i64 0, .int .i64 0] 3)).alloc (.cells #[.int .i64 0, .int .i64 0, .int .i64 0, .int .i64 0, .int .i64 0, .int .i64 0, .int .i64 0, .int .i64 0, .int .i64 0] 3)).alloc (.cells #[.int .i64 0, .int .i64 0, .int .i64 0, .int .i64 0, .int .i64 0, .int .i64 0, .int .i64 0, .int .i64 0, .int .i64 0, .int .i64 0, .int .i64 0] 3)).alloc (.cells #[.int .i64 1, .int .i64 2, .int .i64 3, .int .i64 4, .int .i64 1, .int .i64 9, .int .i64 1, .int .i64 5, .int .i64 (-1), .int .i64 0, .int .i64 0, .int .i64 1] 3)).alloc (.cells #[.int .i64 0, .int .i64 0, .int .i64 0, .int .i64 0, .int .i64 1, .int .i64 0, .int .i64 0, .int .i64 0, .int .i64 0, .int .i64 0] 3)).alloc (.cells #[.int .i64 0, .int .i64 0, .int .i64 0, .int .i64 0, .int .i64 (-1), .int .i64 0, .int .i64 0, .int .i64 0, .int .i64 0, .int .i64 0] 3)).alloc (.cells #[.int .i64 0, .int .i64 0, .int .i64 0, .int .i64 0, .int .i64 1099511627776, .int .i64 0, .int .i64 0, .int .i64 0, .int .i64 0, .int .i64 0] 3)).alloc (.cells #[.int .i64 0, .int .i64 0, .int .i64 0, .int .i64 0, .int .i64 0, .int .i64 0, .int .i64 0, .int .i64 1, .int .i64 1, .int .i64 2, .int .i64 3, .int .i64 (-1), .int .i64 4, .int .i64 1, .int .i64 0, .int .i64 1, .int .i64 0, .int .i64 0] 3)).alloc (.cells #[.int .i64 0, .int .i64 0, .int .i64 0, .int .i64 0, .int .i64 0, .int .i64 0, .int .i64 0, .int .i64 1, .int .i64 1, .int .i64 2, .int .i64 3, .int .i64 (-1), .int .i64 4, .int .i64 2, .int .i64 0, .int .i64 1, .int .i64 0, .int .i64 0] 3)).alloc (.cells #[.int .i64 0, .int .i64 0, .int .i64 0, .int .i64 0, .int .i64 0, .int .i64 0, .int .i64 0, .int .i64 1, .int .i64 1, .int .i64 2, .int .i64 3, .int .i64 (-1), .int .i64 4, .int .i64 1, .int .i64 0, .int .i64 (-1), .int .i64 0, .int .i64 0] 3)).heap[w.heap.size + 9]? = some (.cells #[.int .i64 0, .int .i64 0, .int .i64 0, .int .i64 0, .int .i64 0, .int .i64 0, .int .i64 0, .int .i64 1, .int .i64 1, .int .i64 2, .int .i64 3, .int .i64 (-1), .int .i64 4, .int .i64 1, .int .i64 0, .int .i64 (-1), .int .i64 0, .int .i64 0] 3)) (below_alloc_self _ (.cells #[.int .i64 0, .int .i64 0, .int .i64 0, .int .i64 0, .int .i64 0, .int .i64 0, .int .i64 0, .int .i64 0, .int .i64 2, .int .i64 7, .int .i64 8, .int .i64 2] 3))) (below_alloc_self _ (.cells #[.int .i64 0, .int .i64 0, .int .i64 0, .int .i64 0, .int .i64 0, .int .i64 0, .int .i64 0, .int .i64 0, .int .i64 2, .int .i64 7, .int .i64 2] 3))) (below_alloc_self _ (.cells #[.slice (some ⟨w.heap.size, 0, none⟩) 10 10, .bool true, .slice (some ⟨w.heap.size + 1, 0, none⟩) 9 9, .bool false, .slice (some ⟨w.heap.size + 2, 0, none⟩) 11 11, .bool false, .slice (some ⟨w.heap.size + 3, 0, none⟩) 12 12, .bool true, .slice (some ⟨w.heap.size + 4, 0, none⟩) 10 10, .bool false, .slice (some ⟨w.heap.size + 5, 0, none⟩) 10 10, .bool false, .slice (some ⟨w.heap.size + 6, 0, none⟩) 10 10, .bool false, .slice (some ⟨w.heap.size + 7, 0, none⟩) 18 18, .bool true, .slice (some ⟨w.heap.size + 8, 0, none⟩) 18 18, .bool false, .slice (some ⟨w.heap.size + 9, 0, none⟩) 18 18, .bool false, .slice (some ⟨w.heap.size + 10, 0, none⟩) 12 12, .bool true, .slice (some ⟨w.heap.size + 11, 0, none⟩) 11 11, .bool false] 84)))
  have XR10 := (heap_keep (heap_keep (heap_at_new (W := ((((((((((w.alloc (.cells #[.int .i64 0, .int .i64 0, .int .i64 0, .int .i64 0, .int .i64 0, .int .i64 0, .int .i64 0, .int .i64 0, .int .i64 0, .int .i64 0] 3)).alloc (.cells #[.int .i64 0, .int .i64 0, .int .i64 0, .int .i64 0, .int .i64 0, .int .i64 0, .int .i64 0, .int .i64 0, .int .i64 0] 3)).alloc (.cells #[.int .i64 0, .int .i64 0, .int .i64 0, .int .i64 0, .int .i64 0, .int .i64 0, .int .i64 0, .int .i64 0, .int .i64 0, .int .i64 0, .int .i64 0] 3)).alloc (.cells #[.int .i64 1, .int .i64 2, .int .i64 3, .int .i64 4, .int .i64 1, .int .i64 9, .int .i64 1, .int .i64 5, .int .i64 (-1), .int .i64 0, .int .i64 0, .int .i64 1] 3)).alloc (.cells #[.int .i64 0, .int .i64 0, .int .i64 0, .int .i64 0, .int .i64 1, .int .i64 0, .int .i64 0, .int .i64 0, .int .i64 0, .int .i64 0] 3)).alloc (.cells #[.int .i64 0, .int .i64 0, .int .i64 0, .int .i64 0, .int .i64 (-1), .int .i64 0, .int .i64 0, .int .i64 0, .int .i64 0, .int .i64 0] 3)).alloc (.cells #[.int .i64 0, .int .i64 0, .int .i64 0, .int .i64 0, .int .i64 1099511627776, .int .i64 0, .int .i64 0, .int .i64 0, .int .i64 0, .int .i64 0] 3)).alloc (.cells #[.int .i64 0, .int .i64 0, .int .i64 0, .int .i64 0, .int .i64 0, .int .i64 0, .int .i64 0, .int .i64 1, .int .i64 1, .int .i64 2, .int .i64 3, .int .i64 (-1), .int .i64 4, .int .i64 1, .int .i64 0, .int .i64 1, .int .i64 0, .int .i64 0] 3)).alloc (.cells #[.int .i64 0, .int .i64 0, .int .i64 0, .int .i64 0, .int .i64 0, .int .i64 0, .int .i64 0, .int .i64 1, .int .i64 1, .int .i64 2, .int .i64 3, .int .i64 (-1), .int .i64 4, .int .i64 2, .int .i64 0, .int .i64 1, .int .i64 0, .int .i64 0] 3)).alloc (.cells #[.int .i64 0, .int .i64 0, .int .i64 0, .int .i64 0, .int .i64 0, .int .i64 0, .int .i64 0, .int .i64 1, .int .i64 1, .int .i64 2, .int .i64 3, .int .i64 (-1), .int .i64 4, .int .i64 1, .int .i64 0, .int .i64 (-1), .int .i64 0, .int .i64 0] 3))) (o := (.cells #[.int .i64 0, .int .i64 0, .int .i64 0, .int .i64 0, .int .i64 0, .int .i64 0, .int .i64 0, .int .i64 0, .int .i64 2, .int .i64 7, .int .i64 8, .int .i64 2] 3)) (g := w.heap.size + 10) (by simp) : (((((((((((w.alloc (.cells #[.int .i64 0, .int .i64 0, .int .i64 0, .int .i64 0, .int .i64 0, .int .i64 0, .int .i64 0, .int .i64 0, .int .i64 0, .int .i64 0] 3)).alloc (.cells #[.int .i64 0, .int .i64 0, .int .i64 0, .int .i64 0, .int .i64 0, .int .i64 0, .int .i64 0, .int .i64 0, .int .i64 0] 3)).alloc (.cells #[.int .i64 0, .int .i64 0, .int .i64 0, .int .i64 0, .int .i64 0, .int .i64 0, .int .i64 0, .int .i64 0, .int .i64 0, .int .i64 0, .int .i64 0] 3)).alloc (.cells #[.int .i64 1, .int .i64 2, .int .i64 3, .int .i64 4, .int .i64 1, .int .i64 9, .int .i64 1, .int .i64 5, .int .i64 (-1), .int .i64 0, .int .i64 0, .int .i64 1] 3)).alloc (.cells #[.int .i64 0, .int .i64 0, .int .i64 0, .int .i64 0, .int .i64 1, .int .i64 0, .int .i64 0, .int .i64 0, .int .i64 0, .int .i64 0] 3)).alloc (.cells #[.int .i64 0, .int .i64 0, .int .i64 0, .int .i64 0, .int .i64 (-1), .int .i64 0, .int .i64 0, .int .i64 0, .int .i64 0, .int .i64 0] 3)).alloc (.cells #[.int .i64 0, .int .i64 0, .int .i64 0, .int .i64 0, .int .i64 1099511627776, .int .i64 0, .int .i64 0, .int .i64 0, .int .i64 0, .int .i64 0] 3)).alloc (.cells #[.int .i64 0, .int .i64 0, .int .i64 0, .int .i64 0, .int .i64 0, .int .i64 0, .int .i64 0, .int .i64 1, .int .i64 1, .int .i64 2, .int .i64 3, .int .i64 (-1), .int .i64 4, .int .i64 1, .int .i64 0, .int .i64 1, .int .i64 0, .int .i64 0] 3)).alloc (.cells #[.int .i64 0, .int .i64 0, .int .i64 0, .int .i64 0, .int .i64 0, .int .i64 0, .int .i64 0, .int .i64 1, .int .i64 1, .int .i64 2, .int .i64 3, .int .i64 (-1), .int .i64 4, .int .i64 2, .int .i64 0, .int .i64 1, .int .i64 0, .int .i64 0] 3)).alloc (.cells #[.int .i64 0, .int .i64 0, .int .i64 0, .int .i64 0, .int .i64 0, .int .i64 0, .int .i64 0, .int .i64 1, .int .i64 1, .int .i64 2, .int .i64 3, .int .i64 (-1), .int .i64 4, .int .i64 1, .int .i64 0, .int .i64 (-1), .int .i64 0, .int .i64 0] 3)).alloc (.cells #[.int .i64 0, .int .i64 0, .int .i64 0, .int .i64 0, .int .i64 0, .int .i64 0, .int .i64 0, .int .i64 0, .int .i64 2, .int .i64 7, .int .i64 8, .int .i64 2] 3)).heap[w.heap.size + 10]? = some (.cells #[.int .i64 0, .int .i64 0, .int .i64 0, .int .i64 0, .int .i64 0, .int .i64 0, .int .i64 0, .int .i64 0, .int .i64 2, .int .i64 7, .int .i64 8, .int .i64 2] 3)) (below_alloc_self _ (.cells #[.int .i64 0, .int .i64 0, .int .i64 0, .int .i64 0, .int .i64 0, .int .i64 0, .int .i64 0, .int .i64 0, .int .i64 2, .int .i64 7, .int .i64 2] 3))) (below_alloc_self _ (.cells #[.slice (some ⟨w.heap.size, 0, none⟩) 10 10, .bool true, .slice (some ⟨w.heap.size + 1, 0, none⟩) 9 9, .bool false, .slice (some ⟨w.heap.size + 2, 0, none⟩) 11 11, .bool false, .slice (some ⟨w.heap.size + 3, 0, none⟩) 12 12, .bool true, .slice (some ⟨w.heap.size + 4, 0, none⟩) 10 10, .bool false, .slice (some ⟨w.heap.size + 5, 0, none⟩) 10 10, .bool false, .slice (some ⟨w.heap.size + 6, 0, none⟩) 10 10, .bool false, .slice (some ⟨w.heap.size + 7, 0, none⟩) 18 18, .bool true, .slice (some ⟨w.heap.size + 8, 0, none⟩) 18 18, .bool false, .slice (some ⟨w.heap.size + 9, 0, none⟩) 18 18, .bool false, .slice (some ⟨w.heap.size + 10, 0, none⟩) 12 12, .bool true, .slice (some ⟨w.heap.size + 11, 0, none⟩) 11 11, .bool false] 84)))
  have XR11 := (heap_keep (heap_at_new (W := (((((((((((w.alloc (.cells #[.int .i64 0, .int .i64 0, .int .i64 0, .int .i64 0, .int .i64 0, .int .i64 0, .int .i64 0, .int .i64 0, .int .i64 0, .int .i64 0] 3)).alloc (.cells #[.int .i64 0, .int .i64 0, .int .i64 0, .int .i64 0, .int .i64 0, .int .i64 0, .int .i64 0, .int .i64 0, .int .i64 0] 3)).alloc (.cells #[.int .i64 0, .int .i64 0, .int .i64 0, .int .i64 0, .int .i64 0, .int .i64 0, .int .i64 0, .int .i64 0, .int .i64 0, .int .i64 0, .int .i64 0] 3)).alloc (.cells #[.int .i64 1, .int .i64 2, .int .i64 3, .int .i64 4, .int .i64 1, .int .i64 9, .int .i64 1, .int .i64 5, .int .i64 (-1), .int .i64 0, .int .i64 0, .int .i64 1] 3)).alloc (.cells #[.int .i64 0, .int .i64 0, .int .i64 0, .int .i64 0, .int .i64 1, .int .i64 0, .int .i64 0, .int .i64 0, .int .i64 0, .int .i64 0] 3)).alloc (.cells #[.int .i64 0, .int .i64 0, .int .i64 0, .int .i64 0, .int .i64 (-1), .int .i64 0, .int .i64 0, .int .i64 0, .int .i64 0, .int .i64 0] 3)).alloc (.cells #[.int .i64 0, .int .i64 0, .int .i64 0, .int .i64 0, .int .i64 1099511627776, .int .i64 0, .int .i64 0, .int .i64 0, .int .i64 0, .int .i64 0] 3)).alloc (.cells #[.int .i64 0, .int .i64 0, .int .i64 0, .int .i64 0, .int .i64 0, .int .i64 0, .int .i64 0, .int .i64 1, .int .i64 1, .int .i64 2, .int .i64 3, .int .i64 (-1), .int .i64 4, .int .i64 1, .int .i64 0, .int .i64 1, .int .i64 0, .int .i64 0] 3)).alloc (.cells #[.int .i64 0, .int .i64 0, .int .i64 0, .int .i64 0, .int .i64 0, .int .i64 0, .int .i64 0, .int .i64 1, .int .i64 1, .int .i64 2, .int .i64 3, .int .i64 (-1), .int .i64 4, .int .i64 2, .int .i64 0, .int .i64 1, .int .i64 0, .int .i64 0] 3)).alloc (.cells #[.int .i64 0, .int .i64 0, .int .i64 0, .int .i64 0, .int .i64 0, .int .i64 0, .int .i64 0, .int .i64 1, .int .i64 1, .int .i64 2, .int .i64 3, .int .i64 (-1), .int .i64 4, .int .i64 1, .int .i64 0, .int .i64 (-1), .int .i64 0, .int .i64 0] 3)).alloc (.cells #[.int .i64 0, .int .i64 0, .int .i64 0, .int .i64 0, .int .i64 0, .int .i64 0, .int .i64 0, .int .i64 0, .int .i64 2, .int .i64 7, .int .i64 8, .int .i64 2] 3))) (o := (.cells #[.int .i64 0, .int .i64 0, .int .i64 0, .int .i64 0, .int .i64 0, .int .i64 0, .int .i64 0, .int .i64 0, .int .i64 2, .int .i64 7, .int .i64 2] 3)) (g := w.heap.size + 11) (by simp) : ((((((((((((w.alloc (.cells #[.int .i64 0, .int .i64 0, .int .i64 0, .int .i64 0, .int .i64 0, .int .i64 0, .int .i64 0, .int .i64 0, .int .i64 0, .int .i64 0] 3)).alloc (.cells #[.int .i64 0, .int .i64 0, .int .i64 0, .int .i64 0, .int .i64 0, .int .i64 0, .int .i64 0, .int .i64 0, .int .i64 0] 3)).alloc (.cells #[.int .i64 0, .int .i64 0, .int .i64 0, .int .i64 0, .int .i64 0, .int .i64 0, .int .i64 0, .int .i64 0, .int .i64 0, .int .i64 0, .int .i64 0] 3)).alloc (.cells #[.int .i64 1, .int .i64 2, .int .i64 3, .int .i64 4, .int .i64 1, .int .i64 9, .int .i64 1, .int .i64 5, .int .i64 (-1), .int .i64 0, .int .i64 0, .int .i64 1] 3)).alloc (.cells #[.int .i64 0, .int .i64 0, .int .i64 0, .int .i64 0, .int .i64 1, .int .i64 0, .int .i64 0, .int .i64 0, .int .i64 0, .int .i64 0] 3)).alloc (.cells #[.int .i64 0, .int .i64 0, .int .i64 0, .int .i64 0, .int .i64 (-1), .int .i64 0, .int .i64 0, .int .i64 0, .int .i64 0, .int .i64 0] 3)).alloc (.cells #[.int .i64 0, .int .i64 0, .int .i64 0, .int .i64 0, .int .i64 1099511627776, .int .i64 0, .int .i64 0, .int .i64 0, .int .i64 0, .int .i64 0] 3)).alloc (.cells #[.int .i64 0, .int .i64 0, .int .i64 0, .int .i64 0, .int .i64 0, .int .i64 0, .int .i64 0, .int .i64 1, .int .i64 1, .int .i64 2, .int .i64 3, .int .i64 (-1), .int .i64 4, .int .i64 1, .int .i64 0, .int .i64 1, .int .i64 0, .int .i64 0] 3)).alloc (.cells #[.int .i64 0, .int .i64 0, .int .i64 0, .int .i64 0, .int .i64 0, .int .i64 0, .int .i64 0, .int .i64 1, .int .i64 1, .int .i64 2, .int .i64 3, .int .i64 (-1), .int .i64 4, .int .i64 2, .int .i64 0, .int .i64 1, .int .i64 0, .int .i64 0] 3)).alloc (.cells #[.int .i64 0, .int .i64 0, .int .i64 0, .int .i64 0, .int .i64 0, .int .i64 0, .int .i64 0, .int .i64 1, .int .i64 1, .int .i64 2, .int .i64 3, .int .i64 (-1), .int .i64 4, .int .i64 1, .int .i64 0, .int .i64 (-1), .int .i64 0, .int .i64 0] 3)).alloc (.cells #[.int .i64 0, .int .i64 0, .int .i64 0, .int .i64 0, .int .i64 0, .int .i64 0, .int .i64 0, .int .i64 0, .int .i64 2, .int .i64 7, .int .i64 8, .int .i64 2] 3)).alloc (.cells #[.int .i64 0, .int .i64 0, .int .i64 0, .int .i64 0, .int .i64 0, .int .i64 0, .int .i64 0, .int .i64 0, .int .i64 2, .int .i64 7, .int .i64 2] 3)).heap[w.heap.size + 11]? = some (.cells #[.int .i64 0, .int .i64 0, .int .i64 0, .int .i64 0, .int .i64 0, .int .i64 0, .int .i64 0, .int .i64 0, .int .i64 2, .int .i64 7, .int .i64 2] 3)) (below_alloc_self _ (.cells #[.slice (some ⟨w.heap.size, 0, none⟩) 10 10, .bool true, .slice (some ⟨w.heap.size + 1, 0, none⟩) 9 9, .bool false, .slice (some ⟨w.heap.size + 2, 0, none⟩) 11 11, .bool false, .slice (some ⟨w.heap.size + 3, 0, none⟩) 12 12, .bool true, .slice (some ⟨w.heap.size + 4, 0, none⟩) 10 10, .bool false, .slice (some ⟨w.heap.size + 5, 0, none⟩) 10 10, .bool false, .slice (some ⟨w.heap.size + 6, 0, none⟩) 10 10, .bool false, .slice (some ⟨w.heap.size + 7, 0, none⟩) 18 18, .bool true, .slice (some ⟨w.heap.size + 8, 0, none⟩) 18 18, .bool false, .slice (some ⟨w.heap.size + 9, 0, none⟩) 18 18, .bool false, .slice (some ⟨w.heap.size + 10, 0, none⟩) 12 12, .bool true, .slice (some ⟨w.heap.size + 11, 0, none⟩) 11 11, .bool false] 84)))
  have XR12 := (heap_at_new (W := ((((((((((((w.alloc (.cells #[.int .i64 0, .int .i64 0, .int .i64 0, .int .i64 0, .int .i64 0, .int .i64 0, .int .i64 0, .int .i64 0, .int .i64 0, .int .i64 0] 3)).alloc (.cells #[.int .i64 0, .int .i64 0, .int .i64 0, .int .i64 0, .int .i64 0, .int .i64 0, .int .i64 0, .int .i64 0, .int .i64 0] 3)).alloc (.cells #[.int .i64 0, .int .i64 0, .int .i64 0, .int .i64 0, .int .i64 0, .int .i64 0, .int .i64 0, .int .i64 0, .int .i64 0, .int .i64 0, .int .i64 0] 3)).alloc (.cells #[.int .i64 1, .int .i64 2, .int .i64 3, .int .i64 4, .int .i64 1, .int .i64 9, .int .i64 1, .int .i64 5, .int .i64 (-1), .int .i64 0, .int .i64 0, .int .i64 1] 3)).alloc (.cells #[.int .i64 0, .int .i64 0, .int .i64 0, .int .i64 0, .int .i64 1, .int .i64 0, .int .i64 0, .int .i64 0, .int .i64 0, .int .i64 0] 3)).alloc (.cells #[.int .i64 0, .int .i64 0, .int .i64 0, .int .i64 0, .int .i64 (-1), .int .i64 0, .int .i64 0, .int .i64 0, .int .i64 0, .int .i64 0] 3)).alloc (.cells #[.int .i64 0, .int .i64 0, .int .i64 0, .int .i64 0, .int .i64 1099511627776, .int .i64 0, .int .i64 0, .int .i64 0, .int .i64 0, .int .i64 0] 3)).alloc (.cells #[.int .i64 0, .int .i64 0, .int .i64 0, .int .i64 0, .int .i64 0, .int .i64 0, .int .i64 0, .int .i64 1, .int .i64 1, .int .i64 2, .int .i64 3, .int .i64 (-1), .int .i64 4, .int .i64 1, .int .i64 0, .int .i64 1, .int .i64 0, .int .i64 0] 3)).alloc (.cells #[.int .i64 0, .int .i64 0, .int .i64 0, .int .i64 0, .int .i64 0, .int .i64 0, .int .i64 0, .int .i64 1, .int .i64 1, .int .i64 2, .int .i64 3, .int .i64 (-1), .int .i64 4, .int .i64 2, .int .i64 0, .int .i64 1, .int .i64 0, .int .i64 0] 3)).alloc (.cells #[.int .i64 0, .int .i64 0, .int .i64 0, .int .i64 0, .int .i64 0, .int .i64 0, .int .i64 0, .int .i64 1, .int .i64 1, .int .i64 2, .int .i64 3, .int .i64 (-1), .int .i64 4, .int .i64 1, .int .i64 0, .int .i64 (-1), .int .i64 0, .int .i64 0] 3)).alloc (.cells #[.int .i64 0, .int .i64 0, .int .i64 0, .int .i64 0, .int .i64 0, .int .i64 0, .int .i64 0, .int .i64 0, .int .i64 2, .int .i64 7, .int .i64 8, .int .i64 2] 3)).alloc (.cells #[.int .i64 0, .int .i64 0, .int .i64 0, .int .i64 0, .int .i64 0, .int .i64 0, .int .i64 0, .int .i64 0, .int .i64 2, .int .i64 7, .int .i64 2] 3))) (o := (.cells #[.slice (some ⟨w.heap.size, 0, none⟩) 10 10, .bool true, .slice (some ⟨w.heap.size + 1, 0, none⟩) 9 9, .bool false, .slice (some ⟨w.heap.size + 2, 0, none⟩) 11 11, .bool false, .slice (some ⟨w.heap.size + 3, 0, none⟩) 12 12, .bool true, .slice (some ⟨w.heap.size + 4, 0, none⟩) 10 10, .bool false, .slice (some ⟨w.heap.size + 5, 0, none⟩) 10 10, .bool false, .slice (some ⟨w.heap.size + 6, 0, none⟩) 10 10, .bool false, .slice (some ⟨w.heap.size + 7, 0, none⟩) 18 18, .bool true, .slice (some ⟨w.heap.size + 8, 0, none⟩) 18 18, .bool false, .slice (some ⟨w.heap.size + 9, 0, none⟩) 18 18, .bool false, .slice (some ⟨w.heap.size + 10, 0, none⟩) 12 12, .bool true, .slice (some ⟨w.heap.size + 11, 0, none⟩) 11 11, .bool false] 84)) (g := w.heap.size + 12) (by simp) : (((((((((((((w.alloc (.cells #[.int .i64 0, .int .i64 0, .int .i64 0, .int .i64 0, .int .i64 0, .int .i64 0, .int .i64 0, .int .i64 0, .int .i64 0, .int .i64 0] 3)).alloc (.cells #[.int .i64 0, .int .i64 0, .int .i64 0, .int .i64 0, .int .i64 0, .int .i64 0, .int .i64 0, .int .i64 0, .int .i64 0] 3)).alloc (.cells #[.int .i64 0, .int .i64 0, .int .i64 0, .int .i64 0, .int .i64 0, .int .i64 0, .int .i64 0, .int .i64 0, .int .i64 0, .int .i64 0, .int .i64 0] 3)).alloc (.cells #[.int .i64 1, .int .i64 2, .int .i64 3, .int .i64 4, .int .i64 1, .int .i64 9, .int .i64 1, .int .i64 5, .int .i64 (-1), .int .i64 0, .int .i64 0, .int .i64 1] 3)).alloc (.cells #[.int .i64 0, .int .i64 0, .int .i64 0, .int .i64 0, .int .i64 1, .int .i64 0, .int .i64 0, .int .i64 0, .int .i64 0, .int .i64 0] 3)).alloc (.cells #[.int .i64 0, .int .i64 0, .int .i64 0, .int .i64 0, .int .i64 (-1), .int .i64 0, .int .i64 0, .int .i64 0, .int .i64 0, .int .i64 0] 3)).alloc (.cells #[.int .i64 0, .int .i64 0, .int .i64 0, .int .i64 0, .int .i64 1099511627776, .int .i64 0, .int .i64 0, .int .i64 0, .int .i64 0, .int .i64 0] 3)).alloc (.cells #[.int .i64 0, .int .i64 0, .int .i64 0, .int .i64 0, .int .i64 0, .int .i64 0, .int .i64 0, .int .i64 1, .int .i64 1, .int .i64 2, .int .i64 3, .int .i64 (-1), .int .i64 4, .int .i64 1, .int .i64 0, .int .i64 1, .int .i64 0, .int .i64 0] 3)).alloc (.cells #[.int .i64 0, .int .i64 0, .int .i64 0, .int .i64 0, .int .i64 0, .int .i64 0, .int .i64 0, .int .i64 1, .int .i64 1, .int .i64 2, .int .i64 3, .int .i64 (-1), .int .i64 4, .int .i64 2, .int .i64 0, .int .i64 1, .int .i64 0, .int .i64 0] 3)).alloc (.cells #[.int .i64 0, .int .i64 0, .int .i64 0, .int .i64 0, .int .i64 0, .int .i64 0, .int .i64 0, .int .i64 1, .int .i64 1, .int .i64 2, .int .i64 3, .int .i64 (-1), .int .i64 4, .int .i64 1, .int .i64 0, .int .i64 (-1), .int .i64 0, .int .i64 0] 3)).alloc (.cells #[.int .i64 0, .int .i64 0, .int .i64 0, .int .i64 0, .int .i64 0, .int .i64 0, .int .i64 0, .int .i64 0, .int .i64 2, .int .i64 7, .int .i64 8, .int .i64 2] 3)).alloc (.cells #[.int .i64 0, .int .i64 0, .int .i64 0, .int .i64 0, .int .i64 0, .int .i64 0, .int .i64 0, .int .i64 0, .int .i64 2, .int .i64 7, .int .i64 2] 3)).alloc (.cells #[.slice (some ⟨w.heap.size, 0, none⟩) 10 10, .bool true, .slice (some ⟨w.heap.size + 1, 0, none⟩) 9 9, .bool false, .slice (some ⟨w.heap.size + 2, 0, none⟩) 11 11, .bool false, .slice (some ⟨w.heap.size + 3, 0, none⟩) 12 12, .bool true, .slice (some ⟨w.heap.size + 4, 0, none⟩) 10 10, .bool false, .slice (some ⟨w.heap.size + 5, 0, none⟩) 10 10, .bool false, .slice (some ⟨w.heap.size + 6, 0, none⟩) 10 10, .bool false, .slice (some ⟨w.heap.size + 7, 0, none⟩) 18 18, .bool true, .slice (some ⟨w.heap.size + 8, 0, none⟩) 18 18, .bool false, .slice (some ⟨w.heap.size + 9, 0, none⟩) 18 18, .bool false, .slice (some ⟨w.heap.size + 10, 0, none⟩) 12 12, .bool true, .slice (some ⟨w.heap.size + 11, 0, none⟩) 11 11, .bool false] 84)).heap[w.heap.size + 12]? = some (.cells #[.slice (some ⟨w.heap.size, 0, none⟩) 10 10, .bool true, .slice (some ⟨w.heap.size + 1, 0, none⟩) 9 9, .bool false, .slice (some ⟨w.heap.size + 2, 0, none⟩) 11 11, .bool false, .slice (some ⟨w.heap.size + 3, 0, none⟩) 12 12, .bool true, .slice (some ⟨w.heap.size + 4, 0, none⟩) 10 10, .bool false, .slice (some ⟨w.heap.size + 5, 0, none⟩) 10 10, .bool false, .slice (some ⟨w.heap.size + 6, 0, none⟩) 10 10, .bool false, .slice (some ⟨w.heap.size + 7, 0, none⟩) 18 18, .bool true, .slice (some ⟨w.heap.size + 8, 0, none⟩) 18 18, .bool false, .slice (some ⟨w.heap.size + 9, 0, none⟩) 18 18, .bool false, .slice (some ⟨w.heap.size + 10, 0, none⟩) 12 12, .bool true, .slice (some ⟨w.heap.size + 11, 0, none⟩) 11 11, .bool false] 84))
  have W1 := Kept.mk bb
  clear bb
  have hST : w.heap.size + 12 < (((((((((((((w.alloc (.cells #[.int .i64 0, .int .i64 0, .int .i64 0, .int .i64 0, .int .i64 0, .int .i64 0, .int .i64 0, .int .i64 0, .int .i64 0, .int .i64 0] 3)).alloc (.cells #[.int .i64 0, .int .i64 0, .int .i64 0, .int .i64 0, .int .i64 0, .int .i64 0, .int .i64 0, .int .i64 0, .int .i64 0] 3)).alloc (.cells #[.int .i64 0, .int .i64 0, .int .i64 0, .int .i64 0, .int .i64 0, .int .i64 0, .int .i64 0, .int .i64 0, .int .i64 0, .int .i64 0, .int .i64 0] 3)).alloc (.cells #[.int .i64 1, .int .i64 2, .int .i64 3, .int .i64 4, .int .i64 1, .int .i64 9, .int .i64 1, .int .i64 5, .int .i64 (-1), .int .i64 0, .int .i64 0, .int .i64 1] 3)).alloc (.cells #[.int .i64 0, .int .i64 0, .int .i64 0, .int .i64 0, .int .i64 1, .int .i64 0, .int .i64 0, .int .i64 0, .int .i64 0, .int .i64 0] 3)).alloc (.cells #[.int .i64 0, .int .i64 0, .int .i64 0, .int .i64 0, .int .i64 (-1), .int .i64 0, .int .i64 0, .int .i64 0, .int .i64 0, .int .i64 0] 3)).alloc (.cells #[.int .i64 0, .int .i64 0, .int .i64 0, .int .i64 0, .int .i64 1099511627776, .int .i64 0, .int .i64 0, .int .i64 0, .int .i64 0, .int .i64 0] 3)).alloc (.cells #[.int .i64 0, .int .i64 0, .int .i64 0, .int .i64 0, .int .i64 0, .int .i64 0, .int .i64 0, .int .i64 1, .int .i64 1, .int .i64 2, .int .i64 3, .int .i64 (-1), .int .i64 4, .int .i64 1, .int .i64 0, .int .i64 1, .int .i64 0, .int .i64 0] 3)).alloc (.cells #[.int .i64 0, .int .i64 0, .int .i64 0, .int .i64 0, .int .i64 0, .int .i64 0, .int .i64 0, .int .i64 1, .int .i64 1, .int .i64 2, .int .i64 3, .int .i64 (-1), .int .i64 4, .int .i64 2, .int .i64 0, .int .i64 1, .int .i64 0, .int .i64 0] 3)).alloc (.cells #[.int .i64 0, .int .i64 0, .int .i64 0, .int .i64 0, .int .i64 0, .int .i64 0, .int .i64 0, .int .i64 1, .int .i64 1, .int .i64 2, .int .i64 3, .int .i64 (-1), .int .i64 4, .int .i64 1, .int .i64 0, .int .i64 (-1), .int .i64 0, .int .i64 0] 3)).alloc (.cells #[.int .i64 0, .int .i64 0, .int .i64 0, .int .i64 0, .int .i64 0, .int .i64 0, .int .i64 0, .int .i64 0, .int .i64 2, .int .i64 7, .int .i64 8, .int .i64 2] 3)).alloc (.cells #[.int .i64 0, .int .i64 0, .int .i64 0, .int .i64 0, .int .i64 0, .int .i64 0, .int .i64 0, .int .i64 0, .int .i64 2, .int .i64 7, .int .i64 2] 3)).alloc (.cells #[.slice (some ⟨w.heap.size, 0, none⟩) 10 10, .bool true, .slice (some ⟨w.heap.size + 1, 0, none⟩) 9 9, .bool false, .slice (some ⟨w.heap.size + 2, 0, none⟩) 11 11, .bool false, .slice (some ⟨w.heap.size + 3, 0, none⟩) 12 12, .bool true, .slice (some ⟨w.heap.size + 4, 0, none⟩) 10 10, .bool false, .slice (some ⟨w.heap.size + 5, 0, none⟩) 10 10, .bool false, .slice (some ⟨w.heap.size + 6, 0, none⟩) 10 10, .bool false, .slice (some ⟨w.heap.size + 7, 0, none⟩) 18 18, .bool true, .slice (some ⟨w.heap.size + 8, 0, none⟩) 18 18, .bool false, .slice (some ⟨w.heap.size + 9, 0, none⟩) 18 18, .bool false, .slice (some ⟨w.heap.size + 10, 0, none⟩) 12 12, .bool true, .slice (some ⟨w.heap.size + 11, 0, none⟩) 11 11, .bool false] 84)).heap.size := by simp
  generalize (((((((((((((w.alloc (.cells #[.int .i64 0, .int .i64 0, .int .i64 0, .int .i64 0, .int .i64 0, .int .i64 0, .int .i64 0, .int .i64 0, .int .i64 0, .int .i64 0] 3)).alloc (.cells #[.int .i64 0, .int .i64 0, .int .i64 0, .int .i64 0, .int .i64 0, .int .i64 0, .int .i64 0, .int .i64 0, .int .i64 0] 3)).alloc (.cells #[.int .i64 0, .int .i64 0, .int .i64 0, .int .i64 0, .int .i64 0, .int .i64 0, .int .i64 0, .int .i64 0, .int .i64 0, .int .i64 0, .int .i64 0] 3)).alloc (.cells #[.int .i64 1, .int .i64 2, .int .i64 3, .int .i64 4, .int .i64 1, .int .i64 9, .int .i64 1, .int .i64 5, .int .i64 (-1), .int .i64 0, .int .i64 0, .int .i64 1] 3)).alloc (.cells #[.int .i64 0, .int .i64 0, .int .i64 0, .int .i64 0, .int .i64 1, .int .i64 0, .int .i64 0, .int .i64 0, .int .i64 0, .int .i64 0] 3)).alloc (.cells #[.int .i64 0, .int .i64 0, .int .i64 0, .int .i64 0, .int .i64 (-1), .int .i64 0, .int .i64 0, .int .i64 0, .int .i64 0, .int .i64 0] 3)).alloc (.cells #[.int .i64 0, .int .i64 0, .int .i64 0, .int .i64 0, .int .i64 1099511627776, .int .i64 0, .int .i64 0, .int .i64 0, .int .i64 0, .int .i64 0] 3)).alloc (.cells #[.int .i64 0, .int .i64 0, .int .i64 0, .int .i64 0, .int .i64 0, .int .i64 0, .int .i64 0, .int .i64 1, .int .i64 1, .int .i64 2, .int .i64 3, .int .i64 (-1), .int .i64 4, .int .i64 1, .int .i64 0, .int .i64 1, .int .i64 0, .int .i64 0] 3)).alloc (.cells #[.int .i64 0, .int .i64 0, .int .i64 0, .int .i64 0, .int .i64 0, .int .i64 0, .int .i64 0, .int .i64 1, .int .i64 1, .int .i64 2, .int .i64 3, .int .i64 (-1), .int .i64 4, .int .i64 2, .int .i64 0, .int .i64 1, .int .i64 0, .int .i64 0] 3)).alloc (.cells #[.int .i64 0, .int .i64 0, .int .i64 0, .int .i64 0, .int .i64 0, .int .i64 0, .int .i64 0, .int .i64 1, .int .i64 1, .int .i64 2, .int .i64 3, .int .i64 (-1), .int .i64 4, .int .i64 1, .int .i64 0, .int .i64 (-1), .int .i64 0, .int .i64 0] 3)).alloc (.cells #[.int .i64 0, .int .i64 0, .int .i64 0, .int .i64 0, .int .i64 0, .int .i64 0, .int .i64 0, .int .i64 0, .int .i64 2, .int .i64 7, .int .i64 8, .int .i64 2] 3)).alloc (.cells #[.int .i64 0, .int .i64 0, .int .i64 0, .int .i64 0, .int .i64 0, .int .i64 0, .int .i64 0, .int .i64 0, .int .i64 2, .int .i64 7, .int .i64 2] 3)).alloc (.cells #[.slice (some ⟨w.heap.size, 0, none⟩) 10 10, .bool true, .slice (some ⟨w.heap.size + 1, 0, none⟩) 9 9, .bool false, .slice (some ⟨w.heap.size + 2, 0, none⟩) 11 11, .bool false, .slice (some ⟨w.heap.size + 3, 0, none⟩) 12 12, .bool true, .slice (some ⟨w.heap.size + 4, 0, none⟩) 10 10, .bool false, .slice (some ⟨w.heap.size + 5, 0, none⟩) 10 10, .bool false, .slice (some ⟨w.heap.size + 6, 0, none⟩) 10 10, .bool false, .slice (some ⟨w.heap.size + 7, 0, none⟩) 18 18, .bool true, .slice (some ⟨w.heap.size + 8, 0, none⟩) 18 18, .bool false, .slice (some ⟨w.heap.size + 9, 0, none⟩) 18 18, .bool false, .slice (some ⟨w.heap.size + 10, 0, none⟩) 12 12, .bool true, .slice (some ⟨w.heap.size + 11, 0, none⟩) 11 11, .bool false] 84)) = w1 at *
  have hrow : ∃ (gR nL : Nat) (L : List Int) (bb : Bool), L.length = nL ∧ w1.cell? ⟨w.heap.size + 12, k * 2, none⟩ = some (.slice (some ⟨gR, 0, none⟩) nL nL) ∧ w1.cell? ⟨w.heap.size + 12, k * 2 + 1, none⟩ = some (.bool bb) ∧ RdI w1 (some ⟨gR, 0, none⟩) L ∧ Row13 L bb := by
    have : k = 0 ∨ k = 1 ∨ k = 2 ∨ k = 3 ∨ k = 4 ∨ k = 5 ∨ k = 6 ∨ k = 7 ∨ k = 8 ∨ k = 9 ∨ k = 10 ∨ k = 11 := by omega
    rcases this with rfl | rfl | rfl | rfl | rfl | rfl | rfl | rfl | rfl | rfl | rfl | rfl
    · exact ⟨w.heap.size + 0, 10, [0, 0, 0, 0, 0, 0, 0, 0, 0, 0], true, rfl, cell_of_row w1 (w.heap.size + 12) 0 _ _ _ XR12, cell_of_row w1 (w.heap.size + 12) 1 _ _ _ XR12, reads_block (n := 10) (size := 1) XR0 rfl, row13_0⟩
    · exact ⟨w.heap.size + 1, 9, [0, 0, 0, 0, 0, 0, 0, 0, 0], false, rfl, cell_of_row w1 (w.heap.size + 12) 2 _ _ _ XR12, cell_of_row w1 (w.heap.size + 12) 3 _ _ _ XR12, reads_block (n := 9) (size := 1) XR1 rfl, row13_1⟩
    · exact ⟨w.heap.size + 2, 11, [0, 0, 0, 0, 0, 0, 0, 0, 0, 0, 0], false, rfl, cell_of_row w1 (w.heap.size + 12) 4 _ _ _ XR12, cell_of_row w1 (w.heap.size + 12) 5 _ _ _ XR12, reads_block (n := 11) (size := 1) XR2 rfl, row13_2⟩
    · exact ⟨w.heap.size + 3, 12, [1, 2, 3, 4, 1, 9, 1, 5, -1, 0, 0, 1], true, rfl, cell_of_row w1 (w.heap.size + 12) 6 _ _ _ XR12, cell_of_row w1 (w.heap.size + 12) 7 _ _ _ XR12, reads_block (n := 12) (size := 1) XR3 rfl, row13_3⟩
    · exact ⟨w.heap.size + 4, 10, [0, 0, 0, 0, 1, 0, 0, 0, 0, 0], false, rfl, cell_of_row w1 (w.heap.size + 12) 8 _ _ _ XR12, cell_of_row w1 (w.heap.size + 12) 9 _ _ _ XR12, reads_block (n := 10) (size := 1) XR4 rfl, row13_4⟩
    · exact ⟨w.heap.size + 5, 10, [0, 0, 0, 0, -1, 0, 0, 0, 0, 0], false, rfl, cell_of_row w1 (w.heap.size + 12) 10 _ _ _ XR12, cell_of_row w1 (w.heap.size + 12) 11 _ _ _ XR12, reads_block (n := 10) (size := 1) XR5 rfl, row13_5⟩
    · exact ⟨w.heap.size + 6, 10, [0, 0, 0, 0, 1099511627776, 0, 0, 0, 0, 0], false, rfl, cell_of_row w1 (w.heap.size + 12) 12 _ _ _ XR12, cell_of_row w1 (w.heap.size + 12) 13 _ _ _ XR12, reads_block (n := 10) (size := 1) XR6 rfl, row13_6⟩
    · exact ⟨w.heap.size + 7, 18, [0, 0, 0, 0, 0, 0, 0, 1, 1, 2, 3, -1, 4, 1, 0, 1, 0, 0], true, rfl, cell_of_row w1 (w.heap.size + 12) 14 _ _ _ XR12, cell_of_row w1 (w.heap.size + 12) 15 _ _ _ XR12, reads_block (n := 18) (size := 1) XR7 rfl, row13_7⟩
    · exact ⟨w.heap.size + 8, 18, [0, 0, 0, 0, 0, 0, 0, 1, 1, 2, 3, -1, 4, 2, 0, 1, 0, 0], false, rfl, cell_of_row w1 (w.heap.size + 12) 16 _ _ _ XR12, cell_of_row w1 (w.heap.size + 12) 17 _ _ _ XR12, reads_block (n := 18) (size := 1) XR8 rfl, row13_8⟩
    · exact ⟨w.heap.size + 9, 18, [0, 0, 0, 0, 0, 0, 0, 1, 1, 2, 3, -1, 4, 1, 0, -1, 0, 0], false, rfl, cell_of_row w1 (w.heap.size + 12) 18 _ _ _ XR12, cell_of_row w1 (w.heap.size + 12) 19 _ _ _ XR12, reads_block (n := 18) (size := 1) XR9 rfl, row13_9⟩
    · exact ⟨w.heap.size + 10, 12, [0, 0, 0, 0, 0, 0, 0, 0, 2, 7, 8, 2], true, rfl, cell_of_row w1 (w.heap.size + 12) 20 _ _ _ XR12, cell_of_row w1 (w.heap.size + 12) 21 _ _ _ XR12, reads_block (n := 12) (size := 1) XR10 rfl, row13_10⟩
    · exact ⟨w.heap.size + 11, 11, [0, 0, 0, 0, 0, 0, 0, 0, 2, 7, 2], false, rfl, cell_of_row w1 (w.heap.size + 12) 22 _ _ _ XR12, cell_of_row w1 (w.heap.size + 12) 23 _ _ _ XR12, reads_block (n := 11) (size := 1) XR11 rfl, row13_11⟩
  obtain ⟨gR, nL, L, bb, hnL, q0, q1, hrl, hR⟩ := hrow
  have HRL := Kept.mk hrl
  have HR := Kept.mk hR
  clear hrl hR XR0 XR1 XR2 XR3 XR4 XR5 XR6 XR7 XR8 XR9 XR10 XR11 XR12
  have hS12 : w.heap.size ≤ w.heap.size + 12 := by omega
  generalize w.heap.size + 12 = ST at *
  have hS4 : ST < w1.heap.size := hST
  go_upto_region 3 with (fail)
  have bX := below_alloc_self w1 (.cells #[.slice (some ⟨gR, 0, none⟩) nL nL, .bool bb] 84)
  have X4 := heap_alloc_new w1 (.cells #[.slice (some ⟨gR, 0, none⟩) nL nL, .bool bb] 84)
  have HRL := Kept.mk (HRL.out.past bX)
  have W2 := Kept.mk (W1.out.trans (bX.mono W1.out.size))
  clear bX W1 q0 q1
  generalize w1.alloc (.cells #[.slice (some ⟨gR, 0, none⟩) nL nL, .bool bb] 84) = w2 at *
  generalize w1.heap.size = S4 at *
  have Y4 := fun j => cell_of_row w2 S4 j _ _ _ X4
  go_wp2_with fail
  refine (ref_putx (some ⟨gR, 0, none⟩) nL nL L w2 hnL HRL.out (by have := HR.out.n; omega)).mono ?_
  rintro en w3 ⟨v3, rfl, ob, b3⟩
  obtain ⟨bA, bC, rfl, hbc, rb⟩ := ob.shape
  have X4 := heap_keep X4 b3
  have HRL := Kept.mk (HRL.out.past b3)
  have W3 := Kept.mk (W2.out.trans (b3.mono W2.out.size))
  have HBY := Kept.mk rb
  have hbl : (putL L).length ≤ 100000 := by have := (putL_length_le L).2; have := HR.out.n; omega
  clear Y4 b3 ob rb W2
  go_wp2_with fail
  refine (parse_any bA (putL L).length bC (putL L) w3 rfl hbc HBY.out hbl).mono ?_
  rintro en w5 ⟨cy, ok, rfl, b5, hy, hn⟩
  have X4 := heap_keep X4 b5
  have HRL := Kept.mk (HRL.out.past b5)
  have W5 := Kept.mk (W3.out.trans (b5.mono W3.out.size))
  have hok : ok = bb := by
    cases hbb : bb with
    | true =>
      obtain ⟨m, hm⟩ := HR.out.y hbb
      cases hoo : ok with
      | true => rfl
      | false => exact absurd (by rw [hm]) ((hn hoo).2 m (by rw [hm]; exact HR.out.i))
    | false =>
      cases hoo : ok with
      | false => rfl
      | true =>
        obtain ⟨m, -, -, hput, h64, -⟩ := hy hoo
        exact absurd (putL_inj _ _ h64 HR.out.i hput) (HR.out.z hbb m)
  subst hok
  have hcy : ok = true → ∃ m, CfIs w5 cy m ∧ cfInts m = L := fun h => by
    obtain ⟨m, hc, -, hput, h64, -⟩ := hy h
    exact ⟨m, hc, putL_inj _ _ h64 HR.out.i hput⟩
  have hcz : ok = false → cy = Cnf.zero := fun h => (hn h).1
  obtain ⟨⟨x0, x1, x2, x3, ⟨xmA, xmN, xmC⟩, ⟨xsA, xsN, xsC⟩, xpc⟩, ⟨xbA, xbN, xbC⟩, ⟨xqA, xqN, xqC⟩, xf⟩ := cy
  have HCY := Kept.mk hcy
  have HCZ0 := Kept.mk hcz
  clear hy hn hcy hcz b5 W3 HBY hbc hbl
  go_upto_region 4 with (fail)
  have bX := below_alloc_self w5 (.cells #[.int .i64 (x0), .int .i64 (x1), .int .i64 (x2), .int .i64 (x3), .slice xmA xmN xmC, .slice xsA xsN xsC, .int .i64 (xpc), .slice xbA xbN xbC, .slice xqA xqN xqC, .int .i64 (xf)] 41)
  have X5 := heap_alloc_new w5 (.cells #[.int .i64 (x0), .int .i64 (x1), .int .i64 (x2), .int .i64 (x3), .slice xmA xmN xmC, .slice xsA xsN xsC, .int .i64 (xpc), .slice xbA xbN xbC, .slice xqA xqN xqC, .int .i64 (xf)] 41)
  have X4 := heap_keep X4 bX
  have HRL := Kept.mk (HRL.out.past bX)
  have W9 := Kept.mk (W5.out.trans (bX.mono W5.out.size))
  have HB9 := Kept.mk bX
  clear bX W5
  generalize w5.alloc (.cells #[.int .i64 (x0), .int .i64 (x1), .int .i64 (x2), .int .i64 (x3), .slice xmA xmN xmC, .slice xsA xsN xsC, .int .i64 (xpc), .slice xbA xbN xbC, .slice xqA xqN xqC, .int .i64 (xf)] 41) = w9 at *
  obtain ⟨S5, hS5⟩ : ∃ S, w5.heap.size = S := ⟨_, rfl⟩
  rw [hS5] at X5 ⊢
  have XK5 : Kept (∀ w1, Below w9.heap.size w9 w1 → CellsAt w1 S5 0 [.int .i64 (x0), .int .i64 (x1), .int .i64 (x2), .int .i64 (x3), .slice xmA xmN xmC, .slice xsA xsN xsC, .int .i64 (xpc), .slice xbA xbN xbC, .slice xqA xqN xqC, .int .i64 (xf)]) := ⟨fun w1 hb => CellsAt.of_block (heap_keep X5 hb)⟩
  have XK4 : Kept (∀ w1, Below w9.heap.size w9 w1 → CellsAt w1 S4 0 [.slice (some ⟨gR, 0, none⟩) nL nL, .bool ok]) := ⟨fun w1 hb => CellsAt.of_block (heap_keep X4 hb)⟩
  clear X4 X5
  cases ok with
  | true =>
    obtain ⟨m, hcm, hcl⟩ := HCY.out rfl
    have hcm := hcm.past HB9.out
    have hln := cfInts_length m
    rw [hcl] at hln
    have hL18 := HR.out.n
    have HINT : Kept (∀ w1, Below w9.heap.size w9 w1 → Calls Try.prog 48 #[Cnf.v (⟨⟨x0, x1, x2, x3, ⟨xmA, xmN, xmC⟩, ⟨xsA, xsN, xsC⟩, xpc⟩, ⟨xbA, xbN, xbC⟩, ⟨xqA, xqN, xqC⟩, xf⟩ : Cnf)] w1 (GivesI w1 L)) := ⟨fun w1 hb => by
      have h := ints9 (⟨⟨x0, x1, x2, x3, ⟨xmA, xmN, xmC⟩, ⟨xsA, xsN, xsC⟩, xpc⟩, ⟨xbA, xbN, xbC⟩, ⟨xqA, xqN, xqC⟩, xf⟩ : Cnf) m w1 (hcm.past hb) (by omega) (by omega) (by omega) (by omega)
      rw [hcl] at h
      exact h⟩
    have heq : (true == true) = true := rfl
    clear hcm hln hcl
    refine region_tell (w9.heap.size) (G := fun _ => True) (ts := [
        .is (Value.bool true),
        .is (Value.pointer (some ⟨S4, 1, none⟩)),
        .is (Value.bool true),
        .is (Value.bool true),
        .is (Value.bool true),
        .is (Value.bool true),
        .is (Value.bool false),
        .is (Value.bool false),
        .is undef,
        .is undef,
        .is undef,
        .is (Value.bool false),
        .is (Value.bool false),
        .is (Value.bool true),
        .is (Value.bool true),
        .is (Value.agg #[.int .i64 (x0), .int .i64 (x1), .int .i64 (x2), .int .i64 (x3), .slice xmA xmN xmC, .slice xsA xsN xsC, .int .i64 (xpc), .slice xbA xbN xbC, .slice xqA xqN xqC, .int .i64 (xf)]),
        .makes (fun v w' => OwnI w' w9.heap.size v L),
        .is (Value.pointer (some ⟨S4, 0, none⟩)),
        .is (Value.slice (some ⟨gR, 0, none⟩) nL nL),
        .draws (.bool true),
        .is (Value.bool true),
        .is (Value.bool true),
        .is (Value.bool true),
        .is (Value.bool true),
        .draws (.bool true),
        .is (Value.bool true),
        .is (Value.bool true)])
      (fin := []) (cs := []) (by kernel_rfl) rfl (by kernel_rfl) (by kernel_rfl)
      ⟨trivial, trivial, trivial, trivial, trivial, trivial, trivial, trivial, trivial, trivial, trivial, trivial, trivial, trivial, trivial, trivial, (fun _ _ _ h hb => OwnI.past h hb), trivial, trivial, trivial, trivial, trivial, trivial, trivial, trivial, trivial, trivial, trivial⟩ (fun _ _ _ _ => trivial) (by simp) (by simp) trivial
      ⟨?_, ?_, ?_, ?_, ?_, ?_, ?_, ?_, ?_, ?_, ?_, ?_, ?_, ?_, ?_, ?_, ?_, ?_, ?_, ?_, ?_, ?_, ?_, ?_, ?_, ?_, ?_, trivial⟩ ?_
    · intro vals w1 hB _ hd
      clear hd
      refine one_value (v := Value.bool true) rfl ?_ (post_is rfl)
      kernel_rfl
    · intro vals w1 hB _ hd
      clear hd
      refine one_value (v := Value.pointer (some ⟨S4, 1, none⟩)) rfl ?_ (post_is rfl)
      kernel_rfl
    · intro vals w1 hB _ hd
      clear hd
      refine one_value (v := Value.bool true) rfl ?_ (post_is rfl)
      exact exec_cell rfl (by kernel_rfl) ((XK4.out w1 hB) 1 _ rfl) Try.underlying4 rfl
    · intro vals w1 hB _ hd
      clear hd
      refine one_value (v := Value.bool true) rfl ?_ (post_is rfl)
      exact Eq.trans (b := .ok (.value (.bool ((true) == (true)))) w1) (by kernel_rfl) (by rw [heq])
    · intro vals w1 hB _ hd
      clear hd
      refine one_value (v := Value.bool true) rfl ?_ (post_is rfl)
      kernel_rfl
    · intro vals w1 hB _ hd
      clear hd
      refine one_value_g (v := Value.bool true) (by kernel_rfl) ?_ (post_is rfl)
      kernel_rfl
    · intro vals w1 hB _ hd
      clear hd
      refine one_value_g (v := Value.bool false) (by kernel_rfl) ?_ (post_is rfl)
      kernel_rfl
    · intro vals w1 hB _ hd
      clear hd
      refine one_value_g (v := Value.bool false) (by kernel_rfl) ?_ (post_is rfl)
      kernel_rfl
    · intro vals w1 hB _ hd
      clear hd
      exact one_not (by kernel_rfl) (post_is rfl)
    · intro vals w1 hB _ hd
      clear hd
      exact one_not (by kernel_rfl) (post_is rfl)
    · intro vals w1 hB _ hd
      clear hd
      exact one_not (by kernel_rfl) (post_is rfl)
    · intro vals w1 hB _ hd
      clear hd
      refine one_value_g (v := Value.bool false) (by kernel_rfl) ?_ (post_is rfl)
      kernel_rfl
    · intro vals w1 hB _ hd
      clear hd
      refine one_value_g (v := Value.bool false) (by kernel_rfl) ?_ (post_is rfl)
      kernel_rfl
    · intro vals w1 hB _ hd
      clear hd
      refine one_value_g (v := Value.bool true) (by kernel_rfl) ?_ (post_is rfl)
      kernel_rfl
    · intro vals w1 hB _ hd
      clear hd
      refine one_value_g (v := Value.bool true) (by kernel_rfl) ?_ (post_is rfl)
      kernel_rfl
    · intro vals w1 hB _ hd
      clear hd
      refine one_value_g (v := Value.agg #[.int .i64 (x0), .int .i64 (x1), .int .i64 (x2), .int .i64 (x3), .slice xmA xmN xmC, .slice xsA xsN xsC, .int .i64 (xpc), .slice xbA xbN xbC, .slice xqA xqN xqC, .int .i64 (xf)]) (by kernel_rfl) ?_ (post_is rfl)
      exact exec_load_row rfl (b := S5) (off := 0) (by kernel_rfl) [.int .i64 (x0), .int .i64 (x1), .int .i64 (x2), .int .i64 (x3), .slice xmA xmN xmC, .slice xsA xsN xsC, .int .i64 (xpc), .slice xbA xbN xbC, .slice xqA xqN xqC, .int .i64 (xf)] (XK5.out w1 hB) Try.underlying41 rfl (by kernel_rfl)
    · intro vals w1 hB _ hd
      clear hd
      refine one_calls_g (f := 48) (args := #[.agg #[.int .i64 (x0), .int .i64 (x1), .int .i64 (x2), .int .i64 (x3), .slice xmA xmN xmC, .slice xsA xsN xsC, .int .i64 (xpc), .slice xbA xbN xbC, .slice xqA xqN xqC, .int .i64 (xf)]]) (w1 := w1) (by kernel_rfl) (by kernel_rfl) ?_
      refine (HINT.out w1 hB).mono ?_
      rintro e1 w3 ⟨v3, rfl, ho, hb⟩
      exact ⟨_, rfl, post_makes rfl (OwnI.lower ho hB.size) hb⟩
    · intro vals w1 hB _ hd
      clear hd
      refine one_value_g (v := Value.pointer (some ⟨S4, 0, none⟩)) (by kernel_rfl) ?_ (post_is rfl)
      kernel_rfl
    · intro vals w1 hB _ hd
      clear hd
      refine one_value_g (v := Value.slice (some ⟨gR, 0, none⟩) nL nL) (by kernel_rfl) ?_ (post_is rfl)
      exact exec_cell rfl (by kernel_rfl) ((XK4.out w1 hB) 0 _ rfl) Try.underlying22 rfl
    · intro vals w1 hB _ hd
      have da : OwnI w1 w9.heap.size (vals 16) L := hd 16 (by kernel_rfl)
      clear hd
      obtain ⟨A5, c5, e5, _, r5⟩ := OwnI.shape da
      rw [hnL] at e5
      refine one_calls_g (f := 20) (args := #[.slice A5 nL c5, .slice (some ⟨gR, 0, none⟩) nL nL]) (w1 := w1) (by kernel_rfl) (by rw [vals_at e5]; kernel_rfl) ?_
      have hsi := same_ints A5 (some ⟨gR, 0, none⟩) c5 nL L L w1 r5 (HRL.out.past hB) (by omega)
      rw [hnL, decide_eq_true rfl] at hsi
      refine hsi.mono ?_
      rintro e1 w3 ⟨rfl, hb⟩
      exact ⟨_, rfl, post_draws rfl hb⟩
    · intro vals w1 hB _ hd
      clear hd
      refine one_value_g (v := Value.bool true) (by kernel_rfl) ?_ (post_is rfl)
      kernel_rfl
    · intro vals w1 hB _ hd
      clear hd
      refine one_value_g (v := Value.bool true) (by kernel_rfl) ?_ (post_is rfl)
      kernel_rfl
    · intro vals w1 hB _ hd
      clear hd
      refine one_value (v := Value.bool true) rfl ?_ (post_is rfl)
      kernel_rfl
    · intro vals w1 hB _ hd
      clear hd
      refine one_value (v := Value.bool true) rfl ?_ (post_is rfl)
      kernel_rfl
    · intro vals w1 hB _ hd
      clear hd
      refine one_calls_g (f := 49) (args := #[]) (w1 := w1) (by kernel_rfl) (by kernel_rfl) ?_
      refine (HAW.out w1).mono ?_
      rintro e1 w3 ⟨rfl, hb⟩
      exact ⟨_, rfl, post_draws rfl hb⟩
    · intro vals w1 hB _ hd
      clear hd
      refine one_value (v := Value.bool true) rfl ?_ (post_is rfl)
      kernel_rfl
    · intro vals w1 hB _ hd
      clear hd
      refine one_value (v := Value.bool true) rfl ?_ (post_is rfl)
      kernel_rfl
    intro vals w15 b15 _ hr
    clear hr
    simp only [fillT, Tell.is, Tell.draws, Tell.makes, Act.put, List.setIfInBounds_toArray, List.set_cons_zero, List.set_cons_succ]
    have W15 := Kept.mk (W9.out.trans (b15.mono W9.out.size))
    go_wp2_with fail
    go_ret
    exact ⟨rfl, W15.out⟩
  | false =>
    have hz := HCZ0.out rfl
    have HCZ : ∀ w1, Kept (CfIs w1 (⟨⟨x0, x1, x2, x3, ⟨xmA, xmN, xmC⟩, ⟨xsA, xsN, xsC⟩, xpc⟩, ⟨xbA, xbN, xbC⟩, ⟨xqA, xqN, xqC⟩, xf⟩ : Cnf) Conf.zero) := fun w1 => by
      rw [hz]
      exact ⟨⟨⟨rfl, rfl, rfl, rfl, RdIs.nil, RdIs.nil, rfl⟩, RdEs.nil, RdIs.nil, rfl⟩⟩
    have heq : (false == false) = true := rfl
    clear hz
    refine region_tell (w9.heap.size) (G := fun _ => True) (ts := [
        .is (Value.bool false),
        .is (Value.pointer (some ⟨S4, 1, none⟩)),
        .is (Value.bool false),
        .is (Value.bool true),
        .is (Value.bool true),
        .is (Value.bool false),
        .is (Value.bool true),
        .is (Value.bool true),
        .is (Value.agg #[.int .i64 (x0), .int .i64 (x1), .int .i64 (x2), .int .i64 (x3), .slice xmA xmN xmC, .slice xsA xsN xsC, .int .i64 (xpc), .slice xbA xbN xbC, .slice xqA xqN xqC, .int .i64 (xf)]),
        .is (Value.agg #[.int .i64 (0), .int .i64 (0), .int .i64 (0), .int .i64 (0), .slice none 0 0, .slice none 0 0, .int .i64 (0), .slice none 0 0, .slice none 0 0, .int .i64 (0)]),
        .draws (.bool true),
        .is (Value.bool true),
        .is (Value.bool true),
        .is undef,
        .is undef,
        .is undef,
        .is undef,
        .is undef,
        .is undef,
        .is undef,
        .is undef,
        .is (Value.bool true),
        .is (Value.bool true),
        .is (Value.bool true),
        .draws (.bool true),
        .is (Value.bool true),
        .is (Value.bool true)])
      (fin := []) (cs := []) (by kernel_rfl) rfl (by kernel_rfl) (by kernel_rfl)
      ⟨trivial, trivial, trivial, trivial, trivial, trivial, trivial, trivial, trivial, trivial, trivial, trivial, trivial, trivial, trivial, trivial, trivial, trivial, trivial, trivial, trivial, trivial, trivial, trivial, trivial, trivial, trivial, trivial⟩ (fun _ _ _ _ => trivial) (by simp) (by simp) trivial
      ⟨?_, ?_, ?_, ?_, ?_, ?_, ?_, ?_, ?_, ?_, ?_, ?_, ?_, ?_, ?_, ?_, ?_, ?_, ?_, ?_, ?_, ?_, ?_, ?_, ?_, ?_, ?_, trivial⟩ ?_
    · intro vals w1 hB _ hd
      clear hd
      refine one_value (v := Value.bool false) rfl ?_ (post_is rfl)
      kernel_rfl
    · intro vals w1 hB _ hd
      clear hd
      refine one_value (v := Value.pointer (some ⟨S4, 1, none⟩)) rfl ?_ (post_is rfl)
      kernel_rfl
    · intro vals w1 hB _ hd
      clear hd
      refine one_value (v := Value.bool false) rfl ?_ (post_is rfl)
      exact exec_cell rfl (by kernel_rfl) ((XK4.out w1 hB) 1 _ rfl) Try.underlying4 rfl
    · intro vals w1 hB _ hd
      clear hd
      refine one_value (v := Value.bool true) rfl ?_ (post_is rfl)
      exact Eq.trans (b := .ok (.value (.bool ((false) == (false)))) w1) (by kernel_rfl) (by rw [heq])
    · intro vals w1 hB _ hd
      clear hd
      refine one_value (v := Value.bool true) rfl ?_ (post_is rfl)
      kernel_rfl
    · intro vals w1 hB _ hd
      clear hd
      refine one_value_g (v := Value.bool false) (by kernel_rfl) ?_ (post_is rfl)
      kernel_rfl
    · intro vals w1 hB _ hd
      clear hd
      refine one_value_g (v := Value.bool true) (by kernel_rfl) ?_ (post_is rfl)
      kernel_rfl
    · intro vals w1 hB _ hd
      clear hd
      refine one_value_g (v := Value.bool true) (by kernel_rfl) ?_ (post_is rfl)
      kernel_rfl
    · intro vals w1 hB _ hd
      clear hd
      refine one_value_g (v := Value.agg #[.int .i64 (x0), .int .i64 (x1), .int .i64 (x2), .int .i64 (x3), .slice xmA xmN xmC, .slice xsA xsN xsC, .int .i64 (xpc), .slice xbA xbN xbC, .slice xqA xqN xqC, .int .i64 (xf)]) (by kernel_rfl) ?_ (post_is rfl)
      exact exec_load_row rfl (b := S5) (off := 0) (by kernel_rfl) [.int .i64 (x0), .int .i64 (x1), .int .i64 (x2), .int .i64 (x3), .slice xmA xmN xmC, .slice xsA xsN xsC, .int .i64 (xpc), .slice xbA xbN xbC, .slice xqA xqN xqC, .int .i64 (xf)] (XK5.out w1 hB) Try.underlying41 rfl (by kernel_rfl)
    · intro vals w1 hB _ hd
      clear hd
      refine one_value_g (v := Value.agg #[.int .i64 (0), .int .i64 (0), .int .i64 (0), .int .i64 (0), .slice none 0 0, .slice none 0 0, .int .i64 (0), .slice none 0 0, .slice none 0 0, .int .i64 (0)]) (by kernel_rfl) ?_ (post_is rfl)
      kernel_rfl
    · intro vals w1 hB _ hd
      clear hd
      refine one_calls_g (f := 30) (args := #[.agg #[.int .i64 (x0), .int .i64 (x1), .int .i64 (x2), .int .i64 (x3), .slice xmA xmN xmC, .slice xsA xsN xsC, .int .i64 (xpc), .slice xbA xbN xbC, .slice xqA xqN xqC, .int .i64 (xf)], Cnf.zero.v]) (w1 := w1) (by kernel_rfl) (by kernel_rfl) ?_
      refine (same9 (⟨⟨x0, x1, x2, x3, ⟨xmA, xmN, xmC⟩, ⟨xsA, xsN, xsC⟩, xpc⟩, ⟨xbA, xbN, xbC⟩, ⟨xqA, xqN, xqC⟩, xf⟩ : Cnf) Cnf.zero Conf.zero Conf.zero w1 (HCZ w1).out ⟨⟨rfl, rfl, rfl, rfl, RdIs.nil, RdIs.nil, rfl⟩, RdEs.nil, RdIs.nil, rfl⟩ (by decide) (by decide) (by decide) (by decide) (by decide) (by decide) (by decide) (by decide)).mono ?_
      rw [decide_eq_true rfl]
      rintro e1 w3 ⟨rfl, hb⟩
      exact ⟨_, rfl, post_draws rfl hb⟩
    · intro vals w1 hB _ hd
      clear hd
      refine one_value_g (v := Value.bool true) (by kernel_rfl) ?_ (post_is rfl)
      kernel_rfl
    · intro vals w1 hB _ hd
      clear hd
      refine one_value_g (v := Value.bool true) (by kernel_rfl) ?_ (post_is rfl)
      kernel_rfl
    · intro vals w1 hB _ hd
      clear hd
      exact one_not (by kernel_rfl) (post_is rfl)
    · intro vals w1 hB _ hd
      clear hd
      exact one_not (by kernel_rfl) (post_is rfl)
    · intro vals w1 hB _ hd
      clear hd
      exact one_not (by kernel_rfl) (post_is rfl)
    · intro vals w1 hB _ hd
      clear hd
      exact one_not (by kernel_rfl) (post_is rfl)
    · intro vals w1 hB _ hd
      clear hd
      exact one_not (by kernel_rfl) (post_is rfl)
    · intro vals w1 hB _ hd
      clear hd
      exact one_not (by kernel_rfl) (post_is rfl)
    · intro vals w1 hB _ hd
      clear hd
      exact one_not (by kernel_rfl) (post_is rfl)
    · intro vals w1 hB _ hd
      clear hd
      exact one_not (by kernel_rfl) (post_is rfl)
    · intro vals w1 hB _ hd
      clear hd
      refine one_value_g (v := Value.bool true) (by kernel_rfl) ?_ (post_is rfl)
      kernel_rfl
    · intro vals w1 hB _ hd
      clear hd
      refine one_value (v := Value.bool true) rfl ?_ (post_is rfl)
      kernel_rfl
    · intro vals w1 hB _ hd
      clear hd
      refine one_value (v := Value.bool true) rfl ?_ (post_is rfl)
      kernel_rfl
    · intro vals w1 hB _ hd
      clear hd
      refine one_calls_g (f := 49) (args := #[]) (w1 := w1) (by kernel_rfl) (by kernel_rfl) ?_
      refine (HAW.out w1).mono ?_
      rintro e1 w3 ⟨rfl, hb⟩
      exact ⟨_, rfl, post_draws rfl hb⟩
    · intro vals w1 hB _ hd
      clear hd
      refine one_value (v := Value.bool true) rfl ?_ (post_is rfl)
      kernel_rfl
    · intro vals w1 hB _ hd
      clear hd
      refine one_value (v := Value.bool true) rfl ?_ (post_is rfl)
      kernel_rfl
    intro vals w15 b15 _ hr
    clear hr
    simp only [fillT, Tell.is, Tell.draws, Act.put, List.setIfInBounds_toArray, List.set_cons_zero, List.set_cons_succ]
    have W15 := Kept.mk (W9.out.trans (b15.mono W9.out.size))
    go_wp2_with fail
    go_ret
    exact ⟨rfl, W15.out⟩

end Go.Proofs.Ytchldbkjapnlcaa
