/- A machine as numbers, by the document's own. -/
import Derived.Test.YtchldbkjapnlcaaJd
import Derived.Test.YtchldbkjapnlcaaJh
import Derived.BigQuiet
import Derived.Test.YtchldbkjapnlcaaJc
import Derived.Test.YtchldbkjapnlcaaJe
import Derived.Deep.DeepCutAuto
set_option linter.unusedVariables false
set_option linter.unusedSimpArgs false
namespace Go.Proofs.Ytchldbkjapnlcaa
open Go.RowKit
section
section
variable {w0 w w' : World} {N0 : Nat} {v0 : Value} {l : List Int} {ap : Nat} {done : Nat → Bool} {vals : Nat → Value}
end
theorem own_full {w : World} {B : Nat} (l : List Int) {cs : Array Value} {n : Nat} (hn : l.length = n) (hcs : cs = (intCs l).toArray) (hB : B ≤ w.heap.size) (hm : n ≤ maxLen) : OwnI (w.alloc (.cells cs 3)) B (.slice (some ⟨w.heap.size, 0, none⟩) n n) l := by
 subst hn hcs
 exact ⟨by rw [intCs_length, Nat.mul_one], .inr ⟨w.heap.size, l.length, _, rfl, hB, heap_alloc_new w _, Nat.le_refl _, hm, by simp [intCs], by rw [Nat.mul_one, List.toList_toArray, List.take_of_length_le (by rw [intCs_length]; exact Nat.le_refl _)]⟩⟩
set_option maxRecDepth 100000 in
set_option maxHeartbeats 1600000 in
theorem ints7 (c : Stt) (s : State) (w : World) (h : StIs w c s) (hm : s.mem.length ≤ 1000) (hs : s.stack.length ≤ 1000) : Calls Try.prog 76 #[c.v] w (GivesI w (stInts s)) := by
 obtain ⟨r0, r1, r2, r3, ⟨mA, mN, mC⟩, ⟨sA, sN, sC⟩, pc⟩ := c
 obtain ⟨q0, q1, q2, q3, mem, stack, qc⟩ := s
 obtain ⟨h0, h1, h2, h3, ⟨hmn, hmc, hmr⟩, ⟨hsn, hsc, hsr⟩, hpc⟩ := h
 simp only at h0 h1 h2 h3 hpc hmn hsn hm hs hmr hsr
 subst h0 h1 h2 h3 hpc hmn hsn
 have HMR := Kept.mk hmr
 have HSR := Kept.mk hsr
 clear hmc hsc hmr hsr
 go_enter Try.func76, Try.ntmps76
 go_upto_region 2 with (fail)
 have XB := q01 (heap_alloc_new w (.cells #[.int .i64 r0, .int .i64 r1, .int .i64 r2, .int .i64 r3, .slice mA mem.length mC, .slice sA stack.length sC, .int .i64 pc] 36)) (q00 _ (.cells #[.int .i64 r0, .int .i64 r1, .int .i64 r2, .int .i64 r3, .int .i64 (mem.length : Int)] 3))
 have O1 := own_full (w := w.alloc (.cells #[.int .i64 r0, .int .i64 r1, .int .i64 r2, .int .i64 r3, .slice mA mem.length mC, .slice sA stack.length sC, .int .i64 pc] 36)) (B := w.heap.size + 1) (cs := #[.int .i64 r0, .int .i64 r1, .int .i64 r2, .int .i64 r3, .int .i64 (mem.length : Int)]) (n := 5) [r0, r1, r2, r3, (mem.length : Int)] rfl rfl (by simp) (by decide)
 rw [World.size_alloc] at O1
 have W1 := Kept.mk ((q00 w (.cells #[.int .i64 r0, .int .i64 r1, .int .i64 r2, .int .i64 r3, .slice mA mem.length mC, .slice sA stack.length sC, .int .i64 pc] 36)).alloc (by simp) (.cells #[.int .i64 r0, .int .i64 r1, .int .i64 r2, .int .i64 r3, .int .i64 (mem.length : Int)] 3))
 have S1 : w.heap.size + 1 ≤ ((w.alloc (.cells #[.int .i64 r0, .int .i64 r1, .int .i64 r2, .int .i64 r3, .slice mA mem.length mC, .slice sA stack.length sC, .int .i64 pc] 36)).alloc (.cells #[.int .i64 r0, .int .i64 r1, .int .i64 r2, .int .i64 r3, .int .i64 (mem.length : Int)] 3)).heap.size := by simp
 generalize (w.alloc (.cells #[.int .i64 r0, .int .i64 r1, .int .i64 r2, .int .i64 r3, .slice mA mem.length mC, .slice sA stack.length sC, .int .i64 pc] 36)).alloc (.cells #[.int .i64 r0, .int .i64 r1, .int .i64 r2, .int .i64 r3, .int .i64 (mem.length : Int)] 3) = w1 at *
 have Y1 := fun j => cell_of_row w1 w.heap.size j _ _ _ XB
 go_wp2_with (at_builtin; go_must (refine append_nums _ rfl (.tmp 20) (.tmp 22) rfl (w.heap.size + 1) rfl O1 (m := mem) rfl (HMR.out.past W1.out) (by simp; omega) S1 ?_))
 intro v2 w2 O2 g2 b2
 have XB := (b2.block w.heap.size (by omega)).trans XB
 have W2 := Kept.mk (W1.out.trans (b2.mono (by omega)))
 have S2 : w.heap.size + 1 ≤ w2.heap.size := by have := b2.size; omega
 have O2 := Kept.mk O2
 clear O1 Y1 W1 g2 b2 S1
 have Y1 := fun j => cell_of_row w2 w.heap.size j _ _ _ XB
 go_wp2_with (at_builtin; go_must (refine append_int _ rfl (.tmp 24) (.tmp 28) rfl (w.heap.size + 1) rfl (O2.out.past (q00 _ _)) _ (stack.length : Int) rfl (q06 (by simp)) (by simp; omega) (by simp; omega) ?_))
 intro v3 w3 O3 g3 b3
 have b3 := ((Below.refl (w.heap.size + 1) w2).alloc S2 (.cells #[.int .i64 (stack.length : Int)] 3)).trans b3
 have XB := (b3.block w.heap.size (by omega)).trans XB
 have W3 := Kept.mk (W2.out.trans (b3.mono (by omega)))
 have S3 : w.heap.size + 1 ≤ w3.heap.size := by have := b3.size; omega
 have O3 := Kept.mk O3
 clear O2 Y1 W2 g3 b3 S2
 have Y1 := fun j => cell_of_row w3 w.heap.size j _ _ _ XB
 go_wp2_with (at_builtin; go_must (refine append_nums _ rfl (.tmp 30) (.tmp 32) rfl (w.heap.size + 1) rfl O3.out (m := stack) rfl (HSR.out.past W3.out) (by simp; omega) S3 ?_))
 intro v4 w4 O4 g4 b4
 have XB := (b4.block w.heap.size (by omega)).trans XB
 have W4 := Kept.mk (W3.out.trans (b4.mono (by omega)))
 have S4 : w.heap.size + 1 ≤ w4.heap.size := by have := b4.size; omega
 have O4 := Kept.mk O4
 clear O3 Y1 W3 g4 b4 S3
 have Y1 := fun j => cell_of_row w4 w.heap.size j _ _ _ XB
 go_wp2_with (at_builtin; go_must (refine append_int _ rfl (.tmp 34) (.tmp 37) rfl (w.heap.size + 1) rfl (O4.out.past (q00 _ _)) _ pc rfl (q06 (by simp)) (by simp; omega) (by simp; omega) ?_))
 intro v5 w5 O5 g5 b5
 have b5 := ((Below.refl (w.heap.size + 1) w4).alloc S4 (.cells #[.int .i64 pc] 3)).trans b5
 have W5 := Kept.mk (W4.out.trans (b5.mono (by omega)))
 have O5 := Kept.mk O5
 clear O4 Y1 W4 g5 b5 S4 XB
 go_wp2_with fail
 go_ret
 exact ⟨v5, rfl, by simpa only [stInts, List.append_assoc, List.cons_append, List.nil_append] using OwnI.lower O5.out (show w.heap.size ≤ w.heap.size + 1 by omega), W5.out⟩
end
end Go.Proofs.Ytchldbkjapnlcaa
