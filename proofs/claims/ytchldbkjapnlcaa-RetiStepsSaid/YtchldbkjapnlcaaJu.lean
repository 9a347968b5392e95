/- What the document fixes of reti holds: the law's own 'awake' answers true. -/
import Derived.Test.YtchldbkjapnlcaaJr
import Derived.Test.YtchldbkjapnlcaaJm
set_option linter.unusedVariables false
set_option linter.unusedSimpArgs false
namespace Go.Proofs.Ytchldbkjapnlcaa
open Go.RowKit
section
def il16 : List Inst := [⟨3, 0, 1, false, 0, false, 0, ⟨#[]⟩, 0⟩, ⟨11, 0, 0, false, 0, false, 0, ⟨#[]⟩, 0⟩]
theorem q16a : retQ il16 ⟨⟨0, 0, 0, 0, [1, 2], [], -1⟩, [⟨0, 3, 1, -1, 1, true, true, false⟩, ⟨1, 0, 0, -1, -1, true, false, false⟩], [4], 0⟩ = some ⟨⟨0, 0, 0, 0, [1, 3], [], -1⟩, [⟨1, 0, 0, -1, -1, true, false, false⟩], [4], 0⟩ := by decide
theorem q16b : retQ il16 ⟨⟨0, 0, 0, 0, [1, 3], [], -1⟩, [⟨1, 0, 0, -1, -1, true, false, false⟩], [4], 0⟩ = some ⟨⟨0, 0, 0, 0, [1, 3], [], 1⟩, [], [], 1⟩ := by decide
theorem q16c : retQ il16 ⟨⟨0, 0, 0, 0, [1, 3], [], 1⟩, [], [], 1⟩ = none := by decide
theorem q16d : canRetOf il16 ⟨⟨0, 0, 0, 0, [1, 2], [], -1⟩, [⟨0, 3, 1, -1, 1, true, false, false⟩, ⟨1, 0, 0, -1, -1, true, false, false⟩], [4], 0⟩ = false := by decide
theorem fit16a : canRetOf il16 ⟨⟨0, 0, 0, 0, [1, 2], [], -1⟩, [⟨0, 3, 1, -1, 1, true, true, false⟩, ⟨1, 0, 0, -1, -1, true, false, false⟩], [4], 0⟩ = true → retFit il16 ⟨⟨0, 0, 0, 0, [1, 2], [], -1⟩, [⟨0, 3, 1, -1, 1, true, true, false⟩, ⟨1, 0, 0, -1, -1, true, false, false⟩], [4], 0⟩ := fun _ e t h => by
 injection h with h1 h2
 subst h1 h2
 decide
theorem fit16b : canRetOf il16 ⟨⟨0, 0, 0, 0, [1, 3], [], -1⟩, [⟨1, 0, 0, -1, -1, true, false, false⟩], [4], 0⟩ = true → retFit il16 ⟨⟨0, 0, 0, 0, [1, 3], [], -1⟩, [⟨1, 0, 0, -1, -1, true, false, false⟩], [4], 0⟩ := fun _ e t h => by
 injection h with h1 h2
 subst h1 h2
 decide
theorem fit16c : canRetOf il16 ⟨⟨0, 0, 0, 0, [1, 3], [], 1⟩, [], [], 1⟩ = true → retFit il16 ⟨⟨0, 0, 0, 0, [1, 3], [], 1⟩, [], [], 1⟩ := fun h => absurd h (by decide)
theorem sm16 : ∀ l : List Ent, (∀ e ∈ l, e = ⟨0, 3, 1, -1, 1, true, true, false⟩ ∨ e = ⟨1, 0, 0, -1, -1, true, false, false⟩) → Small l := fun l h e he => by
 rcases h e he with rfl | rfl <;> simp [Ent.small]
set_option maxRecDepth 100000 in
set_option maxHeartbeats 1600000 in
theorem awake16 (w : World) : Calls Try.prog 31 #[] w (SaysTrue w) := by
 go_enter Try.func31, Try.ntmps31
 go_upto_region 3 with (fail)
 have bb := ((((((q00 w (.cells #[.string ⟨#[109]⟩, .bool false, .int .i64 2] 49)).alloc (by simp) (.cells #[.int .i64 3, .int .i64 0, .int .i64 1, .bool false, .int .i64 0, .bool false, .int .i64 0, .string ⟨#[]⟩, .int .i64 0, .int .i64 11, .int .i64 0, .int .i64 0, .bool false, .int .i64 0, .bool false, .int .i64 0, .string ⟨#[]⟩, .int .i64 0] 53)).alloc (by simp; omega) (.cells #[.int .i64 2, .int .i64 4, .int .i64 0, .int .i64 0, .int .i64 0, .int .i64 0, .int .i64 0, .slice (some ⟨w.heap.size, 0, none⟩) 1 1, .slice none 0 0, .slice (some ⟨w.heap.size + 1, 0, none⟩) 2 2] 33)).alloc (by simp; omega) (.cells #[.int .i64 1, .int .i64 2] 3)).alloc (by simp; omega) (.cells #[.int .i64 0, .int .i64 3, .int .i64 1, .int .i64 (-1), .int .i64 1, .bool true, .bool true, .bool false, .int .i64 1, .int .i64 0, .int .i64 0, .int .i64 (-1), .int .i64 (-1), .bool true, .bool false, .bool false] 55)).alloc (by simp; omega) (.cells #[.int .i64 4] 3)).alloc (by simp; omega) (.cells #[.int .i64 0, .int .i64 0, .int .i64 0, .int .i64 0, .slice (some ⟨w.heap.size + 3, 0, none⟩) 2 2, .slice none 0 0, .int .i64 (-1), .slice (some ⟨w.heap.size + 4, 0, none⟩) 2 2, .slice (some ⟨w.heap.size + 5, 0, none⟩) 1 1, .int .i64 0] 41)
 have XI := (q01 (q01 (q01 (q01 (q01 (q06 (W := (w.alloc (.cells #[.string ⟨#[109]⟩, .bool false, .int .i64 2] 49))) (o := (.cells #[.int .i64 3, .int .i64 0, .int .i64 1, .bool false, .int .i64 0, .bool false, .int .i64 0, .string ⟨#[]⟩, .int .i64 0, .int .i64 11, .int .i64 0, .int .i64 0, .bool false, .int .i64 0, .bool false, .int .i64 0, .string ⟨#[]⟩, .int .i64 0] 53)) (g := w.heap.size + 1) (by simp) : ((w.alloc (.cells #[.string ⟨#[109]⟩, .bool false, .int .i64 2] 49)).alloc (.cells #[.int .i64 3, .int .i64 0, .int .i64 1, .bool false, .int .i64 0, .bool false, .int .i64 0, .string ⟨#[]⟩, .int .i64 0, .int .i64 11, .int .i64 0, .int .i64 0, .bool false, .int .i64 0, .bool false, .int .i64 0, .string ⟨#[]⟩, .int .i64 0] 53)).heap[w.heap.size + 1]? = some (.cells #[.int .i64 3, .int .i64 0, .int .i64 1, .bool false, .int .i64 0, .bool false, .int .i64 0, .string ⟨#[]⟩, .int .i64 0, .int .i64 11, .int .i64 0, .int .i64 0, .bool false, .int .i64 0, .bool false, .int .i64 0, .string ⟨#[]⟩, .int .i64 0] 53)) (q00 _ (.cells #[.int .i64 2, .int .i64 4, .int .i64 0, .int .i64 0, .int .i64 0, .int .i64 0, .int .i64 0, .slice (some ⟨w.heap.size, 0, none⟩) 1 1, .slice none 0 0, .slice (some ⟨w.heap.size + 1, 0, none⟩) 2 2] 33))) (q00 _ (.cells #[.int .i64 1, .int .i64 2] 3))) (q00 _ (.cells #[.int .i64 0, .int .i64 3, .int .i64 1, .int .i64 (-1), .int .i64 1, .bool true, .bool true, .bool false, .int .i64 1, .int .i64 0, .int .i64 0, .int .i64 (-1), .int .i64 (-1), .bool true, .bool false, .bool false] 55))) (q00 _ (.cells #[.int .i64 4] 3))) (q00 _ (.cells #[.int .i64 0, .int .i64 0, .int .i64 0, .int .i64 0, .slice (some ⟨w.heap.size + 3, 0, none⟩) 2 2, .slice none 0 0, .int .i64 (-1), .slice (some ⟨w.heap.size + 4, 0, none⟩) 2 2, .slice (some ⟨w.heap.size + 5, 0, none⟩) 1 1, .int .i64 0] 41)))
 have XP := (q01 (q01 (q01 (q01 (q06 (W := ((w.alloc (.cells #[.string ⟨#[109]⟩, .bool false, .int .i64 2] 49)).alloc (.cells #[.int .i64 3, .int .i64 0, .int .i64 1, .bool false, .int .i64 0, .bool false, .int .i64 0, .string ⟨#[]⟩, .int .i64 0, .int .i64 11, .int .i64 0, .int .i64 0, .bool false, .int .i64 0, .bool false, .int .i64 0, .string ⟨#[]⟩, .int .i64 0] 53))) (o := (.cells #[.int .i64 2, .int .i64 4, .int .i64 0, .int .i64 0, .int .i64 0, .int .i64 0, .int .i64 0, .slice (some ⟨w.heap.size, 0, none⟩) 1 1, .slice none 0 0, .slice (some ⟨w.heap.size + 1, 0, none⟩) 2 2] 33)) (g := w.heap.size + 2) (by simp) : (((w.alloc (.cells #[.string ⟨#[109]⟩, .bool false, .int .i64 2] 49)).alloc (.cells #[.int .i64 3, .int .i64 0, .int .i64 1, .bool false, .int .i64 0, .bool false, .int .i64 0, .string ⟨#[]⟩, .int .i64 0, .int .i64 11, .int .i64 0, .int .i64 0, .bool false, .int .i64 0, .bool false, .int .i64 0, .string ⟨#[]⟩, .int .i64 0] 53)).alloc (.cells #[.int .i64 2, .int .i64 4, .int .i64 0, .int .i64 0, .int .i64 0, .int .i64 0, .int .i64 0, .slice (some ⟨w.heap.size, 0, none⟩) 1 1, .slice none 0 0, .slice (some ⟨w.heap.size + 1, 0, none⟩) 2 2] 33)).heap[w.heap.size + 2]? = some (.cells #[.int .i64 2, .int .i64 4, .int .i64 0, .int .i64 0, .int .i64 0, .int .i64 0, .int .i64 0, .slice (some ⟨w.heap.size, 0, none⟩) 1 1, .slice none 0 0, .slice (some ⟨w.heap.size + 1, 0, none⟩) 2 2] 33)) (q00 _ (.cells #[.int .i64 1, .int .i64 2] 3))) (q00 _ (.cells #[.int .i64 0, .int .i64 3, .int .i64 1, .int .i64 (-1), .int .i64 1, .bool true, .bool true, .bool false, .int .i64 1, .int .i64 0, .int .i64 0, .int .i64 (-1), .int .i64 (-1), .bool true, .bool false, .bool false] 55))) (q00 _ (.cells #[.int .i64 4] 3))) (q00 _ (.cells #[.int .i64 0, .int .i64 0, .int .i64 0, .int .i64 0, .slice (some ⟨w.heap.size + 3, 0, none⟩) 2 2, .slice none 0 0, .int .i64 (-1), .slice (some ⟨w.heap.size + 4, 0, none⟩) 2 2, .slice (some ⟨w.heap.size + 5, 0, none⟩) 1 1, .int .i64 0] 41)))
 have XN := (q01 (q01 (q01 (q06 (W := (((w.alloc (.cells #[.string ⟨#[109]⟩, .bool false, .int .i64 2] 49)).alloc (.cells #[.int .i64 3, .int .i64 0, .int .i64 1, .bool false, .int .i64 0, .bool false, .int .i64 0, .string ⟨#[]⟩, .int .i64 0, .int .i64 11, .int .i64 0, .int .i64 0, .bool false, .int .i64 0, .bool false, .int .i64 0, .string ⟨#[]⟩, .int .i64 0] 53)).alloc (.cells #[.int .i64 2, .int .i64 4, .int .i64 0, .int .i64 0, .int .i64 0, .int .i64 0, .int .i64 0, .slice (some ⟨w.heap.size, 0, none⟩) 1 1, .slice none 0 0, .slice (some ⟨w.heap.size + 1, 0, none⟩) 2 2] 33))) (o := (.cells #[.int .i64 1, .int .i64 2] 3)) (g := w.heap.size + 3) (by simp) : ((((w.alloc (.cells #[.string ⟨#[109]⟩, .bool false, .int .i64 2] 49)).alloc (.cells #[.int .i64 3, .int .i64 0, .int .i64 1, .bool false, .int .i64 0, .bool false, .int .i64 0, .string ⟨#[]⟩, .int .i64 0, .int .i64 11, .int .i64 0, .int .i64 0, .bool false, .int .i64 0, .bool false, .int .i64 0, .string ⟨#[]⟩, .int .i64 0] 53)).alloc (.cells #[.int .i64 2, .int .i64 4, .int .i64 0, .int .i64 0, .int .i64 0, .int .i64 0, .int .i64 0, .slice (some ⟨w.heap.size, 0, none⟩) 1 1, .slice none 0 0, .slice (some ⟨w.heap.size + 1, 0, none⟩) 2 2] 33)).alloc (.cells #[.int .i64 1, .int .i64 2] 3)).heap[w.heap.size + 3]? = some (.cells #[.int .i64 1, .int .i64 2] 3)) (q00 _ (.cells #[.int .i64 0, .int .i64 3, .int .i64 1, .int .i64 (-1), .int .i64 1, .bool true, .bool true, .bool false, .int .i64 1, .int .i64 0, .int .i64 0, .int .i64 (-1), .int .i64 (-1), .bool true, .bool false, .bool false] 55))) (q00 _ (.cells #[.int .i64 4] 3))) (q00 _ (.cells #[.int .i64 0, .int .i64 0, .int .i64 0, .int .i64 0, .slice (some ⟨w.heap.size + 3, 0, none⟩) 2 2, .slice none 0 0, .int .i64 (-1), .slice (some ⟨w.heap.size + 4, 0, none⟩) 2 2, .slice (some ⟨w.heap.size + 5, 0, none⟩) 1 1, .int .i64 0] 41)))
 have XE := (q01 (q01 (q06 (W := ((((w.alloc (.cells #[.string ⟨#[109]⟩, .bool false, .int .i64 2] 49)).alloc (.cells #[.int .i64 3, .int .i64 0, .int .i64 1, .bool false, .int .i64 0, .bool false, .int .i64 0, .string ⟨#[]⟩, .int .i64 0, .int .i64 11, .int .i64 0, .int .i64 0, .bool false, .int .i64 0, .bool false, .int .i64 0, .string ⟨#[]⟩, .int .i64 0] 53)).alloc (.cells #[.int .i64 2, .int .i64 4, .int .i64 0, .int .i64 0, .int .i64 0, .int .i64 0, .int .i64 0, .slice (some ⟨w.heap.size, 0, none⟩) 1 1, .slice none 0 0, .slice (some ⟨w.heap.size + 1, 0, none⟩) 2 2] 33)).alloc (.cells #[.int .i64 1, .int .i64 2] 3))) (o := (.cells #[.int .i64 0, .int .i64 3, .int .i64 1, .int .i64 (-1), .int .i64 1, .bool true, .bool true, .bool false, .int .i64 1, .int .i64 0, .int .i64 0, .int .i64 (-1), .int .i64 (-1), .bool true, .bool false, .bool false] 55)) (g := w.heap.size + 4) (by simp) : (((((w.alloc (.cells #[.string ⟨#[109]⟩, .bool false, .int .i64 2] 49)).alloc (.cells #[.int .i64 3, .int .i64 0, .int .i64 1, .bool false, .int .i64 0, .bool false, .int .i64 0, .string ⟨#[]⟩, .int .i64 0, .int .i64 11, .int .i64 0, .int .i64 0, .bool false, .int .i64 0, .bool false, .int .i64 0, .string ⟨#[]⟩, .int .i64 0] 53)).alloc (.cells #[.int .i64 2, .int .i64 4, .int .i64 0, .int .i64 0, .int .i64 0, .int .i64 0, .int .i64 0, .slice (some ⟨w.heap.size, 0, none⟩) 1 1, .slice none 0 0, .slice (some ⟨w.heap.size + 1, 0, none⟩) 2 2] 33)).alloc (.cells #[.int .i64 1, .int .i64 2] 3)).alloc (.cells #[.int .i64 0, .int .i64 3, .int .i64 1, .int .i64 (-1), .int .i64 1, .bool true, .bool true, .bool false, .int .i64 1, .int .i64 0, .int .i64 0, .int .i64 (-1), .int .i64 (-1), .bool true, .bool false, .bool false] 55)).heap[w.heap.size + 4]? = some (.cells #[.int .i64 0, .int .i64 3, .int .i64 1, .int .i64 (-1), .int .i64 1, .bool true, .bool true, .bool false, .int .i64 1, .int .i64 0, .int .i64 0, .int .i64 (-1), .int .i64 (-1), .bool true, .bool false, .bool false] 55)) (q00 _ (.cells #[.int .i64 4] 3))) (q00 _ (.cells #[.int .i64 0, .int .i64 0, .int .i64 0, .int .i64 0, .slice (some ⟨w.heap.size + 3, 0, none⟩) 2 2, .slice none 0 0, .int .i64 (-1), .slice (some ⟨w.heap.size + 4, 0, none⟩) 2 2, .slice (some ⟨w.heap.size + 5, 0, none⟩) 1 1, .int .i64 0] 41)))
 have XR := (q01 (q06 (W := (((((w.alloc (.cells #[.string ⟨#[109]⟩, .bool false, .int .i64 2] 49)).alloc (.cells #[.int .i64 3, .int .i64 0, .int .i64 1, .bool false, .int .i64 0, .bool false, .int .i64 0, .string ⟨#[]⟩, .int .i64 0, .int .i64 11, .int .i64 0, .int .i64 0, .bool false, .int .i64 0, .bool false, .int .i64 0, .string ⟨#[]⟩, .int .i64 0] 53)).alloc (.cells #[.int .i64 2, .int .i64 4, .int .i64 0, .int .i64 0, .int .i64 0, .int .i64 0, .int .i64 0, .slice (some ⟨w.heap.size, 0, none⟩) 1 1, .slice none 0 0, .slice (some ⟨w.heap.size + 1, 0, none⟩) 2 2] 33)).alloc (.cells #[.int .i64 1, .int .i64 2] 3)).alloc (.cells #[.int .i64 0, .int .i64 3, .int .i64 1, .int .i64 (-1), .int .i64 1, .bool true, .bool true, .bool false, .int .i64 1, .int .i64 0, .int .i64 0, .int .i64 (-1), .int .i64 (-1), .bool true, .bool false, .bool false] 55))) (o := (.cells #[.int .i64 4] 3)) (g := w.heap.size + 5) (by simp) : ((((((w.alloc (.cells #[.string ⟨#[109]⟩, .bool false, .int .i64 2] 49)).alloc (.cells #[.int .i64 3, .int .i64 0, .int .i64 1, .bool false, .int .i64 0, .bool false, .int .i64 0, .string ⟨#[]⟩, .int .i64 0, .int .i64 11, .int .i64 0, .int .i64 0, .bool false, .int .i64 0, .bool false, .int .i64 0, .string ⟨#[]⟩, .int .i64 0] 53)).alloc (.cells #[.int .i64 2, .int .i64 4, .int .i64 0, .int .i64 0, .int .i64 0, .int .i64 0, .int .i64 0, .slice (some ⟨w.heap.size, 0, none⟩) 1 1, .slice none 0 0, .slice (some ⟨w.heap.size + 1, 0, none⟩) 2 2] 33)).alloc (.cells #[.int .i64 1, .int .i64 2] 3)).alloc (.cells #[.int .i64 0, .int .i64 3, .int .i64 1, .int .i64 (-1), .int .i64 1, .bool true, .bool true, .bool false, .int .i64 1, .int .i64 0, .int .i64 0, .int .i64 (-1), .int .i64 (-1), .bool true, .bool false, .bool false] 55)).alloc (.cells #[.int .i64 4] 3)).heap[w.heap.size + 5]? = some (.cells #[.int .i64 4] 3)) (q00 _ (.cells #[.int .i64 0, .int .i64 0, .int .i64 0, .int .i64 0, .slice (some ⟨w.heap.size + 3, 0, none⟩) 2 2, .slice none 0 0, .int .i64 (-1), .slice (some ⟨w.heap.size + 4, 0, none⟩) 2 2, .slice (some ⟨w.heap.size + 5, 0, none⟩) 1 1, .int .i64 0] 41)))
 have XC := (q06 (W := ((((((w.alloc (.cells #[.string ⟨#[109]⟩, .bool false, .int .i64 2] 49)).alloc (.cells #[.int .i64 3, .int .i64 0, .int .i64 1, .bool false, .int .i64 0, .bool false, .int .i64 0, .string ⟨#[]⟩, .int .i64 0, .int .i64 11, .int .i64 0, .int .i64 0, .bool false, .int .i64 0, .bool false, .int .i64 0, .string ⟨#[]⟩, .int .i64 0] 53)).alloc (.cells #[.int .i64 2, .int .i64 4, .int .i64 0, .int .i64 0, .int .i64 0, .int .i64 0, .int .i64 0, .slice (some ⟨w.heap.size, 0, none⟩) 1 1, .slice none 0 0, .slice (some ⟨w.heap.size + 1, 0, none⟩) 2 2] 33)).alloc (.cells #[.int .i64 1, .int .i64 2] 3)).alloc (.cells #[.int .i64 0, .int .i64 3, .int .i64 1, .int .i64 (-1), .int .i64 1, .bool true, .bool true, .bool false, .int .i64 1, .int .i64 0, .int .i64 0, .int .i64 (-1), .int .i64 (-1), .bool true, .bool false, .bool false] 55)).alloc (.cells #[.int .i64 4] 3))) (o := (.cells #[.int .i64 0, .int .i64 0, .int .i64 0, .int .i64 0, .slice (some ⟨w.heap.size + 3, 0, none⟩) 2 2, .slice none 0 0, .int .i64 (-1), .slice (some ⟨w.heap.size + 4, 0, none⟩) 2 2, .slice (some ⟨w.heap.size + 5, 0, none⟩) 1 1, .int .i64 0] 41)) (g := w.heap.size + 6) (by simp) : (((((((w.alloc (.cells #[.string ⟨#[109]⟩, .bool false, .int .i64 2] 49)).alloc (.cells #[.int .i64 3, .int .i64 0, .int .i64 1, .bool false, .int .i64 0, .bool false, .int .i64 0, .string ⟨#[]⟩, .int .i64 0, .int .i64 11, .int .i64 0, .int .i64 0, .bool false, .int .i64 0, .bool false, .int .i64 0, .string ⟨#[]⟩, .int .i64 0] 53)).alloc (.cells #[.int .i64 2, .int .i64 4, .int .i64 0, .int .i64 0, .int .i64 0, .int .i64 0, .int .i64 0, .slice (some ⟨w.heap.size, 0, none⟩) 1 1, .slice none 0 0, .slice (some ⟨w.heap.size + 1, 0, none⟩) 2 2] 33)).alloc (.cells #[.int .i64 1, .int .i64 2] 3)).alloc (.cells #[.int .i64 0, .int .i64 3, .int .i64 1, .int .i64 (-1), .int .i64 1, .bool true, .bool true, .bool false, .int .i64 1, .int .i64 0, .int .i64 0, .int .i64 (-1), .int .i64 (-1), .bool true, .bool false, .bool false] 55)).alloc (.cells #[.int .i64 4] 3)).alloc (.cells #[.int .i64 0, .int .i64 0, .int .i64 0, .int .i64 0, .slice (some ⟨w.heap.size + 3, 0, none⟩) 2 2, .slice none 0 0, .int .i64 (-1), .slice (some ⟨w.heap.size + 4, 0, none⟩) 2 2, .slice (some ⟨w.heap.size + 5, 0, none⟩) 1 1, .int .i64 0] 41)).heap[w.heap.size + 6]? = some (.cells #[.int .i64 0, .int .i64 0, .int .i64 0, .int .i64 0, .slice (some ⟨w.heap.size + 3, 0, none⟩) 2 2, .slice none 0 0, .int .i64 (-1), .slice (some ⟨w.heap.size + 4, 0, none⟩) 2 2, .slice (some ⟨w.heap.size + 5, 0, none⟩) 1 1, .int .i64 0] 41))
 have SZ : (((((((w.alloc (.cells #[.string ⟨#[109]⟩, .bool false, .int .i64 2] 49)).alloc (.cells #[.int .i64 3, .int .i64 0, .int .i64 1, .bool false, .int .i64 0, .bool false, .int .i64 0, .string ⟨#[]⟩, .int .i64 0, .int .i64 11, .int .i64 0, .int .i64 0, .bool false, .int .i64 0, .bool false, .int .i64 0, .string ⟨#[]⟩, .int .i64 0] 53)).alloc (.cells #[.int .i64 2, .int .i64 4, .int .i64 0, .int .i64 0, .int .i64 0, .int .i64 0, .int .i64 0, .slice (some ⟨w.heap.size, 0, none⟩) 1 1, .slice none 0 0, .slice (some ⟨w.heap.size + 1, 0, none⟩) 2 2] 33)).alloc (.cells #[.int .i64 1, .int .i64 2] 3)).alloc (.cells #[.int .i64 0, .int .i64 3, .int .i64 1, .int .i64 (-1), .int .i64 1, .bool true, .bool true, .bool false, .int .i64 1, .int .i64 0, .int .i64 0, .int .i64 (-1), .int .i64 (-1), .bool true, .bool false, .bool false] 55)).alloc (.cells #[.int .i64 4] 3)).alloc (.cells #[.int .i64 0, .int .i64 0, .int .i64 0, .int .i64 0, .slice (some ⟨w.heap.size + 3, 0, none⟩) 2 2, .slice none 0 0, .int .i64 (-1), .slice (some ⟨w.heap.size + 4, 0, none⟩) 2 2, .slice (some ⟨w.heap.size + 5, 0, none⟩) 1 1, .int .i64 0] 41)).heap.size = w.heap.size + 7 := by simp
 have W3 := Kept.mk bb
 clear bb
 generalize (((((((w.alloc (.cells #[.string ⟨#[109]⟩, .bool false, .int .i64 2] 49)).alloc (.cells #[.int .i64 3, .int .i64 0, .int .i64 1, .bool false, .int .i64 0, .bool false, .int .i64 0, .string ⟨#[]⟩, .int .i64 0, .int .i64 11, .int .i64 0, .int .i64 0, .bool false, .int .i64 0, .bool false, .int .i64 0, .string ⟨#[]⟩, .int .i64 0] 53)).alloc (.cells #[.int .i64 2, .int .i64 4, .int .i64 0, .int .i64 0, .int .i64 0, .int .i64 0, .int .i64 0, .slice (some ⟨w.heap.size, 0, none⟩) 1 1, .slice none 0 0, .slice (some ⟨w.heap.size + 1, 0, none⟩) 2 2] 33)).alloc (.cells #[.int .i64 1, .int .i64 2] 3)).alloc (.cells #[.int .i64 0, .int .i64 3, .int .i64 1, .int .i64 (-1), .int .i64 1, .bool true, .bool true, .bool false, .int .i64 1, .int .i64 0, .int .i64 0, .int .i64 (-1), .int .i64 (-1), .bool true, .bool false, .bool false] 55)).alloc (.cells #[.int .i64 4] 3)).alloc (.cells #[.int .i64 0, .int .i64 0, .int .i64 0, .int .i64 0, .slice (some ⟨w.heap.size + 3, 0, none⟩) 2 2, .slice none 0 0, .int .i64 (-1), .slice (some ⟨w.heap.size + 4, 0, none⟩) 2 2, .slice (some ⟨w.heap.size + 5, 0, none⟩) 1 1, .int .i64 0] 41)) = w3 at *
 have HP : Kept (PIs w3 ⟨2, 4, 0, 0, 0, 0, 0, .slice (some ⟨w.heap.size, 0, none⟩) 1 1, .slice none 0 0, some ⟨w.heap.size + 1, 0, none⟩, 2, 2⟩ il16) := ⟨⟨rfl, (show 2 ≤ 1000 by omega), q17 (n := 2) (size := 9) XI rfl⟩⟩
 have HC : Kept (CfIs w3 ⟨⟨0, 0, 0, 0, ⟨some ⟨w.heap.size + 3, 0, none⟩, 2, 2⟩, ⟨none, 0, 0⟩, -1⟩, ⟨some ⟨w.heap.size + 4, 0, none⟩, 2, 2⟩, ⟨some ⟨w.heap.size + 5, 0, none⟩, 1, 1⟩, 0⟩ ⟨⟨0, 0, 0, 0, [1, 2], [], -1⟩, [⟨0, 3, 1, -1, 1, true, true, false⟩, ⟨1, 0, 0, -1, -1, true, false, false⟩], [4], 0⟩) := ⟨⟨⟨rfl, rfl, rfl, rfl, ⟨rfl, Nat.le_refl _, q17 (n := 2) (size := 1) XN rfl⟩, RdIs.nil, rfl⟩, ⟨rfl, Nat.le_refl _, q17 (n := 2) (size := 8) XE rfl⟩, ⟨rfl, Nat.le_refl _, q17 (n := 1) (size := 1) XR rfl⟩, rfl⟩⟩
 have Y1 := fun j => cell_of_row w3 (w.heap.size + 2) j _ _ _ XP
 have Y2 := fun j => cell_of_row w3 (w.heap.size + 6) j _ _ _ XC
 go_wp2_with fail
 refine (pretire_any ⟨2, 4, 0, 0, 0, 0, 0, .slice (some ⟨w.heap.size, 0, none⟩) 1 1, .slice none 0 0, some ⟨w.heap.size + 1, 0, none⟩, 2, 2⟩ il16 ⟨⟨0, 0, 0, 0, ⟨some ⟨w.heap.size + 3, 0, none⟩, 2, 2⟩, ⟨none, 0, 0⟩, -1⟩, ⟨some ⟨w.heap.size + 4, 0, none⟩, 2, 2⟩, ⟨some ⟨w.heap.size + 5, 0, none⟩, 1, 1⟩, 0⟩ ⟨⟨0, 0, 0, 0, [1, 2], [], -1⟩, [⟨0, 3, 1, -1, 1, true, true, false⟩, ⟨1, 0, 0, -1, -1, true, false, false⟩], [4], 0⟩ w3 HP.out HC.out (by decide) (by decide) (by decide) (by decide) (sm16 _ (by simp)) fit16a).mono ?_
 rintro en w5 ⟨ca, e5, hca, b5⟩
 rw [q16a] at e5 hca
 obtain rfl := e5
 obtain ⟨⟨a0, a1, a2, a3, ⟨amA, amN, amC⟩, ⟨asA, asN, asC⟩, apc⟩, ⟨abA, abN, abC⟩, ⟨aqA, aqN, aqC⟩, af⟩ := ca
 have HA := Kept.mk hca
 have XI := q01 XI b5
 have XP := q01 XP b5
 have XN := q01 XN b5
 have XE := q01 XE b5
 have XR := q01 XR b5
 have XC := q01 XC b5
 have HP := Kept.mk (HP.out.past b5)
 have HC := Kept.mk (HC.out.past b5)
 have W5 := Kept.mk (W3.out.trans (b5.mono W3.out.size))
 clear Y1 Y2 W3 b5 hca
 have Y1 := fun j => cell_of_row w5 (w.heap.size + 2) j _ _ _ XP
 have Y2 := fun j => cell_of_row w5 (w.heap.size + 6) j _ _ _ XC
 have hs5 : w.heap.size + 6 < w5.heap.size := (Array.getElem?_eq_some_iff.1 XC).1
 go_upto_region 4 with (fail)
 clear Y1 Y2
 have bE := q00 w5 (.cells #[.int .i64 a0, .int .i64 a1, .int .i64 a2, .int .i64 a3, .slice amA amN amC, .slice asA asN asC, .int .i64 apc, .slice abA abN abC, .slice aqA aqN aqC, .int .i64 af] 41)
 have XA := heap_alloc_new w5 (.cells #[.int .i64 a0, .int .i64 a1, .int .i64 a2, .int .i64 a3, .slice amA amN amC, .slice asA asN asC, .int .i64 apc, .slice abA abN abC, .slice aqA aqN aqC, .int .i64 af] 41)
 have XI := q01 XI bE
 have XP := q01 XP bE
 have XN := q01 XN bE
 have XE := q01 XE bE
 have XR := q01 XR bE
 have XC := q01 XC bE
 have HP := Kept.mk (HP.out.past bE)
 have HC := Kept.mk (HC.out.past bE)
 have HA := Kept.mk (HA.out.past bE)
 have W6 := Kept.mk (W5.out.trans (bE.mono W5.out.size))
 have S6 : w5.heap.size < (w5.alloc (.cells #[.int .i64 a0, .int .i64 a1, .int .i64 a2, .int .i64 a3, .slice amA amN amC, .slice asA asN asC, .int .i64 apc, .slice abA abN abC, .slice aqA aqN aqC, .int .i64 af] 41)).heap.size := by simp
 clear W5 bE
 generalize w5.alloc (.cells #[.int .i64 a0, .int .i64 a1, .int .i64 a2, .int .i64 a3, .slice amA amN amC, .slice asA asN asC, .int .i64 apc, .slice abA abN abC, .slice aqA aqN aqC, .int .i64 af] 41) = w6 at *
 obtain ⟨S5, hS⟩ : ∃ S, w5.heap.size = S := ⟨_, rfl⟩
 rw [hS] at XA S6 hs5 ⊢
 clear hS
 have Y1 := fun j => cell_of_row w6 (w.heap.size + 2) j _ _ _ XP
 have Y2 := fun j => cell_of_row w6 (w.heap.size + 6) j _ _ _ XC
 have YA := fun j => cell_of_row w6 S5 j _ _ _ XA
 go_wp2_with fail
 refine (pretire_any ⟨2, 4, 0, 0, 0, 0, 0, .slice (some ⟨w.heap.size, 0, none⟩) 1 1, .slice none 0 0, some ⟨w.heap.size + 1, 0, none⟩, 2, 2⟩ il16 ⟨⟨a0, a1, a2, a3, ⟨amA, amN, amC⟩, ⟨asA, asN, asC⟩, apc⟩, ⟨abA, abN, abC⟩, ⟨aqA, aqN, aqC⟩, af⟩ ⟨⟨0, 0, 0, 0, [1, 3], [], -1⟩, [⟨1, 0, 0, -1, -1, true, false, false⟩], [4], 0⟩ w6 HP.out HA.out.is (by decide) (by decide) (by decide) (by decide) (sm16 _ (by simp)) fit16b).mono ?_
 rintro en w7 ⟨cb, e7, hcb, b7⟩
 rw [q16b] at e7 hcb
 obtain rfl := e7
 obtain ⟨⟨b0, b1, b2, b3, ⟨bmA, bmN, bmC⟩, ⟨bsA, bsN, bsC⟩, bpc⟩, ⟨bbA, bbN, bbC⟩, ⟨bqA, bqN, bqC⟩, bf⟩ := cb
 have HBB := Kept.mk hcb
 have XI := q01 XI b7
 have XP := q01 XP b7
 have XN := q01 XN b7
 have XE := q01 XE b7
 have XR := q01 XR b7
 have XC := q01 XC b7
 have XA := q01 XA b7
 have HP := Kept.mk (HP.out.past b7)
 have HC := Kept.mk (HC.out.past b7)
 have HA := Kept.mk (HA.out.past b7)
 have W7 := Kept.mk (W6.out.trans (b7.mono W6.out.size))
 clear Y1 Y2 YA W6 b7 hcb
 have Y1 := fun j => cell_of_row w7 (w.heap.size + 2) j _ _ _ XP
 have Y2 := fun j => cell_of_row w7 (w.heap.size + 6) j _ _ _ XC
 have YA := fun j => cell_of_row w7 S5 j _ _ _ XA
 have hs7 : S5 < w7.heap.size := (Array.getElem?_eq_some_iff.1 XA).1
 go_upto_region 5 with (fail)
 clear Y1 Y2 YA
 have bE := q00 w7 (.cells #[.int .i64 b0, .int .i64 b1, .int .i64 b2, .int .i64 b3, .slice bmA bmN bmC, .slice bsA bsN bsC, .int .i64 bpc, .slice bbA bbN bbC, .slice bqA bqN bqC, .int .i64 bf] 41)
 have XB := heap_alloc_new w7 (.cells #[.int .i64 b0, .int .i64 b1, .int .i64 b2, .int .i64 b3, .slice bmA bmN bmC, .slice bsA bsN bsC, .int .i64 bpc, .slice bbA bbN bbC, .slice bqA bqN bqC, .int .i64 bf] 41)
 have XI := q01 XI bE
 have XP := q01 XP bE
 have XN := q01 XN bE
 have XE := q01 XE bE
 have XR := q01 XR bE
 have XC := q01 XC bE
 have XA := q01 XA bE
 have HP := Kept.mk (HP.out.past bE)
 have HC := Kept.mk (HC.out.past bE)
 have HA := Kept.mk (HA.out.past bE)
 have HBB := Kept.mk (HBB.out.past bE)
 have W8 := Kept.mk (W7.out.trans (bE.mono W7.out.size))
 have S8 : w7.heap.size < (w7.alloc (.cells #[.int .i64 b0, .int .i64 b1, .int .i64 b2, .int .i64 b3, .slice bmA bmN bmC, .slice bsA bsN bsC, .int .i64 bpc, .slice bbA bbN bbC, .slice bqA bqN bqC, .int .i64 bf] 41)).heap.size := by simp
 clear W7 bE
 generalize w7.alloc (.cells #[.int .i64 b0, .int .i64 b1, .int .i64 b2, .int .i64 b3, .slice bmA bmN bmC, .slice bsA bsN bsC, .int .i64 bpc, .slice bbA bbN bbC, .slice bqA bqN bqC, .int .i64 bf] 41) = w8 at *
 obtain ⟨S9, hS⟩ : ∃ S, w7.heap.size = S := ⟨_, rfl⟩
 rw [hS] at XB S8 hs7 ⊢
 clear hS
 have Y1 := fun j => cell_of_row w8 (w.heap.size + 2) j _ _ _ XP
 have Y2 := fun j => cell_of_row w8 (w.heap.size + 6) j _ _ _ XC
 have YA := fun j => cell_of_row w8 S5 j _ _ _ XA
 have YB := fun j => cell_of_row w8 S9 j _ _ _ XB
 go_wp2_with fail
 refine (pretire_any ⟨2, 4, 0, 0, 0, 0, 0, .slice (some ⟨w.heap.size, 0, none⟩) 1 1, .slice none 0 0, some ⟨w.heap.size + 1, 0, none⟩, 2, 2⟩ il16 ⟨⟨b0, b1, b2, b3, ⟨bmA, bmN, bmC⟩, ⟨bsA, bsN, bsC⟩, bpc⟩, ⟨bbA, bbN, bbC⟩, ⟨bqA, bqN, bqC⟩, bf⟩ ⟨⟨0, 0, 0, 0, [1, 3], [], 1⟩, [], [], 1⟩ w8 HP.out HBB.out.is (by decide) (by decide) (by decide) (by decide) (sm16 _ (by simp)) fit16c).mono ?_
 rintro en w9 ⟨cz, e9, hcz, b9⟩
 rw [q16c] at e9 hcz
 obtain rfl := e9
 obtain ⟨⟨z0, z1, z2, z3, ⟨zmA, zmN, zmC⟩, ⟨zsA, zsN, zsC⟩, zpc⟩, ⟨zbA, zbN, zbC⟩, ⟨zqA, zqN, zqC⟩, zf⟩ := cz
 have XI := q01 XI b9
 have XP := q01 XP b9
 have XN := q01 XN b9
 have XE := q01 XE b9
 have XR := q01 XR b9
 have XC := q01 XC b9
 have XA := q01 XA b9
 have XB := q01 XB b9
 have HP := Kept.mk (HP.out.past b9)
 have HC := Kept.mk (HC.out.past b9)
 have HA := Kept.mk (HA.out.past b9)
 have HBB := Kept.mk (HBB.out.past b9)
 have W9 := Kept.mk (W8.out.trans (b9.mono W8.out.size))
 clear Y1 Y2 YA YB W8 b9 hcz
 have Y1 := fun j => cell_of_row w9 (w.heap.size + 2) j _ _ _ XP
 have Y2 := fun j => cell_of_row w9 (w.heap.size + 6) j _ _ _ XC
 have YA := fun j => cell_of_row w9 S5 j _ _ _ XA
 have YB := fun j => cell_of_row w9 S9 j _ _ _ XB
 have hs9 : S9 < w9.heap.size := (Array.getElem?_eq_some_iff.1 XB).1
 go_upto_region 6 with (fail)
 clear Y1 Y2 YA YB
 have bE := q00 w9 (.cells #[.int .i64 z0, .int .i64 z1, .int .i64 z2, .int .i64 z3, .slice zmA zmN zmC, .slice zsA zsN zsC, .int .i64 zpc, .slice zbA zbN zbC, .slice zqA zqN zqC, .int .i64 zf] 41)
 have XZ := heap_alloc_new w9 (.cells #[.int .i64 z0, .int .i64 z1, .int .i64 z2, .int .i64 z3, .slice zmA zmN zmC, .slice zsA zsN zsC, .int .i64 zpc, .slice zbA zbN zbC, .slice zqA zqN zqC, .int .i64 zf] 41)
 have XI := q01 XI bE
 have XP := q01 XP bE
 have XN := q01 XN bE
 have XE := q01 XE bE
 have XR := q01 XR bE
 have XC := q01 XC bE
 have XA := q01 XA bE
 have XB := q01 XB bE
 have HP := Kept.mk (HP.out.past bE)
 have HC := Kept.mk (HC.out.past bE)
 have HA := Kept.mk (HA.out.past bE)
 have HBB := Kept.mk (HBB.out.past bE)
 have W10 := Kept.mk (W9.out.trans (bE.mono W9.out.size))
 have S10 : w9.heap.size < (w9.alloc (.cells #[.int .i64 z0, .int .i64 z1, .int .i64 z2, .int .i64 z3, .slice zmA zmN zmC, .slice zsA zsN zsC, .int .i64 zpc, .slice zbA zbN zbC, .slice zqA zqN zqC, .int .i64 zf] 41)).heap.size := by simp
 clear W9 bE
 generalize w9.alloc (.cells #[.int .i64 z0, .int .i64 z1, .int .i64 z2, .int .i64 z3, .slice zmA zmN zmC, .slice zsA zsN zsC, .int .i64 zpc, .slice zbA zbN zbC, .slice zqA zqN zqC, .int .i64 zf] 41) = w10 at *
 obtain ⟨S7, hS⟩ : ∃ S, w9.heap.size = S := ⟨_, rfl⟩
 rw [hS] at XZ S10 hs9 ⊢
 clear hS
 have Y1 := fun j => cell_of_row w10 (w.heap.size + 2) j _ _ _ XP
 have Y2 := fun j => cell_of_row w10 (w.heap.size + 6) j _ _ _ XC
 have YA := fun j => cell_of_row w10 S5 j _ _ _ XA
 have YB := fun j => cell_of_row w10 S9 j _ _ _ XB
 have YE := fun j => cell_of_row w10 (w.heap.size + 4) j _ _ _ XE
 have FE := fun j => frozen_of_row w10 (w.heap.size + 4) j _ _ XE
 go_upto_region 7 with (fail)
 have XE : (w10.setCell ⟨w.heap.size + 4, 6, none⟩ (.bool false)).heap[w.heap.size + 4]? = some (.cells #[.int .i64 0, .int .i64 3, .int .i64 1, .int .i64 (-1), .int .i64 1, .bool true, .bool false, .bool false, .int .i64 1, .int .i64 0, .int .i64 0, .int .i64 (-1), .int .i64 (-1), .bool true, .bool false, .bool false] 55) := heap_setCell_same w10 (w.heap.size + 4) 6 _ _ (.bool false) XE
 have XI := q03 (p := ⟨w.heap.size + 4, 6, none⟩) (u := .bool false) XI (by show w.heap.size + 4 ≠ w.heap.size + 1; omega)
 have XP := q03 (p := ⟨w.heap.size + 4, 6, none⟩) (u := .bool false) XP (by show w.heap.size + 4 ≠ w.heap.size + 2; omega)
 have XN := q03 (p := ⟨w.heap.size + 4, 6, none⟩) (u := .bool false) XN (by show w.heap.size + 4 ≠ w.heap.size + 3; omega)
 have XR := q03 (p := ⟨w.heap.size + 4, 6, none⟩) (u := .bool false) XR (by show w.heap.size + 4 ≠ w.heap.size + 5; omega)
 have XC := q03 (p := ⟨w.heap.size + 4, 6, none⟩) (u := .bool false) XC (by show w.heap.size + 4 ≠ w.heap.size + 6; omega)
 have XA := q03 (p := ⟨w.heap.size + 4, 6, none⟩) (u := .bool false) XA (by show w.heap.size + 4 ≠ S5; omega)
 have XB := q03 (p := ⟨w.heap.size + 4, 6, none⟩) (u := .bool false) XB (by show w.heap.size + 4 ≠ S9; omega)
 have HA4 := HA.out.far (p := ⟨w.heap.size + 4, 6, none⟩) (show w.heap.size + 4 < w3.heap.size by omega) (.bool false)
 have HB4 := HBB.out.far (p := ⟨w.heap.size + 4, 6, none⟩) (show w.heap.size + 4 < w6.heap.size by omega) (.bool false)
 have W11 := Kept.mk (W10.out.setCell (p := ⟨w.heap.size + 4, 6, none⟩) (show w.heap.size ≤ w.heap.size + 4 by omega) (.bool false))
 clear W10 Y1 Y2 YA YB HP HC HA HBB YE FE
 generalize w10.setCell ⟨w.heap.size + 4, 6, none⟩ (.bool false) = w11 at *
 have HP : Kept (PIs w11 ⟨2, 4, 0, 0, 0, 0, 0, .slice (some ⟨w.heap.size, 0, none⟩) 1 1, .slice none 0 0, some ⟨w.heap.size + 1, 0, none⟩, 2, 2⟩ il16) := ⟨⟨rfl, (show 2 ≤ 1000 by omega), q17 (n := 2) (size := 9) XI rfl⟩⟩
 have HC : Kept (CfIs w11 ⟨⟨0, 0, 0, 0, ⟨some ⟨w.heap.size + 3, 0, none⟩, 2, 2⟩, ⟨none, 0, 0⟩, -1⟩, ⟨some ⟨w.heap.size + 4, 0, none⟩, 2, 2⟩, ⟨some ⟨w.heap.size + 5, 0, none⟩, 1, 1⟩, 0⟩ ⟨⟨0, 0, 0, 0, [1, 2], [], -1⟩, [⟨0, 3, 1, -1, 1, true, false, false⟩, ⟨1, 0, 0, -1, -1, true, false, false⟩], [4], 0⟩) := ⟨⟨⟨rfl, rfl, rfl, rfl, ⟨rfl, Nat.le_refl _, q17 (n := 2) (size := 1) XN rfl⟩, RdIs.nil, rfl⟩, ⟨rfl, Nat.le_refl _, q17 (n := 2) (size := 8) XE rfl⟩, ⟨rfl, Nat.le_refl _, q17 (n := 1) (size := 1) XR rfl⟩, rfl⟩⟩
 have Y1 := fun j => cell_of_row w11 (w.heap.size + 2) j _ _ _ XP
 have Y2 := fun j => cell_of_row w11 (w.heap.size + 6) j _ _ _ XC
 have YA := fun j => cell_of_row w11 S5 j _ _ _ XA
 have YB := fun j => cell_of_row w11 S9 j _ _ _ XB
 have hamn : amN = 2 := HA4.is.st.mem.n
 have ham := HA4.is.st.mem.r
 have habn : abN = 1 := HA4.is.buf.n
 have hbf : bf = 1 := HB4.fin
 have hbpc : bpc = 1 := HB4.st.pc
 have hbqn : bqN = 0 := HB4.is.rsb.n
 obtain ⟨p1, o1, rfl, -, q1⟩ := RdI.at_ ham (i := 1) (by decide)
 have q1 : w11.cell? ⟨p1, o1 + 1, none⟩ = some (.int .i64 3) := q1
 subst hamn habn hbf hbpc hbqn
 clear ham HA4 HB4 XI XP XN XE XR XC XA XB XZ
 go_wp2_with fail
 refine (pcan_any ⟨2, 4, 0, 0, 0, 0, 0, .slice (some ⟨w.heap.size, 0, none⟩) 1 1, .slice none 0 0, some ⟨w.heap.size + 1, 0, none⟩, 2, 2⟩ il16 ⟨⟨0, 0, 0, 0, ⟨some ⟨w.heap.size + 3, 0, none⟩, 2, 2⟩, ⟨none, 0, 0⟩, -1⟩, ⟨some ⟨w.heap.size + 4, 0, none⟩, 2, 2⟩, ⟨some ⟨w.heap.size + 5, 0, none⟩, 1, 1⟩, 0⟩ ⟨⟨0, 0, 0, 0, [1, 2], [], -1⟩, [⟨0, 3, 1, -1, 1, true, false, false⟩, ⟨1, 0, 0, -1, -1, true, false, false⟩], [4], 0⟩ w11 HP.out HC.out (by decide)).mono ?_
 rintro en w12 ⟨rfl, b12⟩
 rw [q16d]
 have W12 := Kept.mk (W11.out.trans (b12.mono W11.out.size))
 clear Y1 Y2 YA YB W11 b12 HP HC q1
 go_wp2_with fail
 go_ret
 exact ⟨rfl, W12.out⟩
end
end Go.Proofs.Ytchldbkjapnlcaa
