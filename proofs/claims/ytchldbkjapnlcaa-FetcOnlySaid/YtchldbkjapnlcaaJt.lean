/- The document's own answer, layer 14: Fetch, whatever it is asked. -/
import Derived.Test.YtchldbkjapnlcaaJn
import Derived.Test.YtchldbkjapnlcaaJd
set_option linter.unusedVariables false
set_option linter.unusedSimpArgs false
section
namespace Go.Proofs.Ytchldbkjapnlcaa
open Go.RowKit

set_option maxRecDepth 100000 in
set_option maxHeartbeats 2000000 in
theorem rfetch_no (p : Prg) (il : List Inst) (c : Cnf) (m : Conf) (guess : Int) (w : World) (hp : PIs w p il) (hc : CfIs w c m)
  (hbl : m.buf.length ≤ 1000) (hrl : m.rsb.length ≤ 1000) (hg : guess < 0 ∨ guessesOf p.window il m ≤ guess) :
  Calls Try.prog 45 #[p.v, c.v, .int .i64 guess] w (fun en w' => en = .returned (.tuple #[Cnf.zero.v, .bool false]) ∧ Below w.heap.size w w') := by
 have HP := Kept.mk hp
 have HC := Kept.mk hc
 have HG := Kept.mk (fun w1 h1 h2 => guesses_ref p il c m w1 h1 h2 (by omega) (by omega))
 obtain ⟨⟨r0, r1, r2, r3, ⟨mA, mN, mC⟩, ⟨sA, sN, sC⟩, pc⟩, ⟨bA, bN, bC⟩, ⟨qA, qN, qC⟩, fin⟩ := c
 clear hp hc
 generalize guessesOf p.window il m = gs at hg HG
 have bb := ((below_alloc_self w (.cells #[.int .i64 p.W, .int .i64 p.window, .int .i64 p.fuel, .int .i64 p.r0, .int .i64 p.r1, .int .i64 p.r2, .int .i64 p.r3, p.mems, p.labels, .slice p.A p.n p.c] 33)).alloc (by simp) (.cells #[.int .i64 r0, .int .i64 r1, .int .i64 r2, .int .i64 r3, .slice mA mN mC, .slice sA sN sC, .int .i64 pc, .slice bA bN bC, .slice qA qN qC, .int .i64 fin] 41)).alloc (by simp; omega) (.cells #[.int .i64 0, .int .i64 0, .int .i64 0, .int .i64 0, .slice none 0 0, .slice none 0 0, .int .i64 0, .slice none 0 0, .slice none 0 0, .int .i64 0] 41)
 have X6 : (((w.alloc (.cells #[.int .i64 p.W, .int .i64 p.window, .int .i64 p.fuel, .int .i64 p.r0, .int .i64 p.r1, .int .i64 p.r2, .int .i64 p.r3, p.mems, p.labels, .slice p.A p.n p.c] 33)).alloc (.cells #[.int .i64 r0, .int .i64 r1, .int .i64 r2, .int .i64 r3, .slice mA mN mC, .slice sA sN sC, .int .i64 pc, .slice bA bN bC, .slice qA qN qC, .int .i64 fin] 41)).alloc (.cells #[.int .i64 0, .int .i64 0, .int .i64 0, .int .i64 0, .slice none 0 0, .slice none 0 0, .int .i64 0, .slice none 0 0, .slice none 0 0, .int .i64 0] 41)).heap[w.heap.size + 2]? = some (.cells #[.int .i64 0, .int .i64 0, .int .i64 0, .int .i64 0, .slice none 0 0, .slice none 0 0, .int .i64 0, .slice none 0 0, .slice none 0 0, .int .i64 0] 41) := heap_at_new (W := (w.alloc (.cells #[.int .i64 p.W, .int .i64 p.window, .int .i64 p.fuel, .int .i64 p.r0, .int .i64 p.r1, .int .i64 p.r2, .int .i64 p.r3, p.mems, p.labels, .slice p.A p.n p.c] 33)).alloc (.cells #[.int .i64 r0, .int .i64 r1, .int .i64 r2, .int .i64 r3, .slice mA mN mC, .slice sA sN sC, .int .i64 pc, .slice bA bN bC, .slice qA qN qC, .int .i64 fin] 41)) (o := (.cells #[.int .i64 0, .int .i64 0, .int .i64 0, .int .i64 0, .slice none 0 0, .slice none 0 0, .int .i64 0, .slice none 0 0, .slice none 0 0, .int .i64 0] 41)) (g := w.heap.size + 2) (by simp)
 have X3 : (((w.alloc (.cells #[.int .i64 p.W, .int .i64 p.window, .int .i64 p.fuel, .int .i64 p.r0, .int .i64 p.r1, .int .i64 p.r2, .int .i64 p.r3, p.mems, p.labels, .slice p.A p.n p.c] 33)).alloc (.cells #[.int .i64 r0, .int .i64 r1, .int .i64 r2, .int .i64 r3, .slice mA mN mC, .slice sA sN sC, .int .i64 pc, .slice bA bN bC, .slice qA qN qC, .int .i64 fin] 41)).alloc (.cells #[.int .i64 0, .int .i64 0, .int .i64 0, .int .i64 0, .slice none 0 0, .slice none 0 0, .int .i64 0, .slice none 0 0, .slice none 0 0, .int .i64 0] 41)).heap[w.heap.size]? = some (.cells #[.int .i64 p.W, .int .i64 p.window, .int .i64 p.fuel, .int .i64 p.r0, .int .i64 p.r1, .int .i64 p.r2, .int .i64 p.r3, p.mems, p.labels, .slice p.A p.n p.c] 33) := heap_keep (heap_keep (heap_alloc_new w (.cells #[.int .i64 p.W, .int .i64 p.window, .int .i64 p.fuel, .int .i64 p.r0, .int .i64 p.r1, .int .i64 p.r2, .int .i64 p.r3, p.mems, p.labels, .slice p.A p.n p.c] 33)) (below_alloc_self _ (.cells #[.int .i64 r0, .int .i64 r1, .int .i64 r2, .int .i64 r3, .slice mA mN mC, .slice sA sN sC, .int .i64 pc, .slice bA bN bC, .slice qA qN qC, .int .i64 fin] 41))) (below_alloc_self _ (.cells #[.int .i64 0, .int .i64 0, .int .i64 0, .int .i64 0, .slice none 0 0, .slice none 0 0, .int .i64 0, .slice none 0 0, .slice none 0 0, .int .i64 0] 41))
 have X4 : (((w.alloc (.cells #[.int .i64 p.W, .int .i64 p.window, .int .i64 p.fuel, .int .i64 p.r0, .int .i64 p.r1, .int .i64 p.r2, .int .i64 p.r3, p.mems, p.labels, .slice p.A p.n p.c] 33)).alloc (.cells #[.int .i64 r0, .int .i64 r1, .int .i64 r2, .int .i64 r3, .slice mA mN mC, .slice sA sN sC, .int .i64 pc, .slice bA bN bC, .slice qA qN qC, .int .i64 fin] 41)).alloc (.cells #[.int .i64 0, .int .i64 0, .int .i64 0, .int .i64 0, .slice none 0 0, .slice none 0 0, .int .i64 0, .slice none 0 0, .slice none 0 0, .int .i64 0] 41)).heap[w.heap.size + 1]? = some (.cells #[.int .i64 r0, .int .i64 r1, .int .i64 r2, .int .i64 r3, .slice mA mN mC, .slice sA sN sC, .int .i64 pc, .slice bA bN bC, .slice qA qN qC, .int .i64 fin] 41) := heap_keep (heap_alloc2_new w (.cells #[.int .i64 p.W, .int .i64 p.window, .int .i64 p.fuel, .int .i64 p.r0, .int .i64 p.r1, .int .i64 p.r2, .int .i64 p.r3, p.mems, p.labels, .slice p.A p.n p.c] 33) (.cells #[.int .i64 r0, .int .i64 r1, .int .i64 r2, .int .i64 r3, .slice mA mN mC, .slice sA sN sC, .int .i64 pc, .slice bA bN bC, .slice qA qN qC, .int .i64 fin] 41)) (below_alloc_self _ (.cells #[.int .i64 0, .int .i64 0, .int .i64 0, .int .i64 0, .slice none 0 0, .slice none 0 0, .int .i64 0, .slice none 0 0, .slice none 0 0, .int .i64 0] 41))
 go_enter Try.func45, Try.ntmps45
 go_upto_region 1 with (fail)
 have W2 := Kept.mk bb
 clear bb
 generalize ((w.alloc (.cells #[.int .i64 p.W, .int .i64 p.window, .int .i64 p.fuel, .int .i64 p.r0, .int .i64 p.r1, .int .i64 p.r2, .int .i64 p.r3, p.mems, p.labels, .slice p.A p.n p.c] 33)).alloc (.cells #[.int .i64 r0, .int .i64 r1, .int .i64 r2, .int .i64 r3, .slice mA mN mC, .slice sA sN sC, .int .i64 pc, .slice bA bN bC, .slice qA qN qC, .int .i64 fin] 41)).alloc (.cells #[.int .i64 0, .int .i64 0, .int .i64 0, .int .i64 0, .slice none 0 0, .slice none 0 0, .int .i64 0, .slice none 0 0, .slice none 0 0, .int .i64 0] 41) = w2 at *
 have K6 := Kept.mk X6
 have Y3 := fun j => cell_of_row w2 w.heap.size j _ _ _ X3
 have Y4 := fun j => cell_of_row w2 (w.heap.size + 1) j _ _ _ X4
 have Y6 := fun j => cell_of_row w2 (w.heap.size + 2) j _ _ _ X6
 have F6 := fun j => frozen_of_row w2 (w.heap.size + 2) j _ _ X6
 clear X3 X4 X6
 by_cases h0 : guess < 0
 ·have hb0 : decide (guess < 0) = true := by simpa using h0
  clear hg
  go_wp2_with fail
  have x4 := cnf_set2 (w := w2) (g := w.heap.size + 2) Cnf.zero Cnf.zero K6.out
  have wb := below10 (g := w.heap.size + 2) Cnf.zero W2.out (by omega)
  refine at_ret _ [Cnf.v Cnf.zero, .bool false] Try.results45 (.cons (.cell (cs := Cnf.cs Cnf.zero) (b := w.heap.size + 2) (off := 0) rfl rfl (cells_of_block x4) Try.underlying41 rfl (by kernel_rfl)) (.cons (.tmp rfl) .nil)) rfl ?_
  exact ⟨rfl, wb⟩
 ·have h1 : gs ≤ guess := by omega
  have hb0 : decide (guess < 0) = false := by simpa using h0
  clear hg h0
  go_wp2_with fail
  refine (HG.out _ (HP.out.past W2.out) (HC.out.past W2.out)).mono ?_
  rintro en w3 ⟨rfl, b3⟩
  have X6 := heap_keep K6.out b3
  have K6 := Kept.mk X6
  have Y6 := fun j => cell_of_row w3 (w.heap.size + 2) j _ _ _ X6
  have F6 := fun j => frozen_of_row w3 (w.heap.size + 2) j _ _ X6
  have W3 := Kept.mk (W2.out.trans (b3.mono W2.out.size))
  clear X6 b3
  go_wp2_with fail
  have x4 := cnf_set2 (w := w3) (g := w.heap.size + 2) Cnf.zero Cnf.zero K6.out
  have wb := below10 (g := w.heap.size + 2) Cnf.zero W3.out (by omega)
  refine at_ret _ [Cnf.v Cnf.zero, .bool false] Try.results45 (.cons (.cell (cs := Cnf.cs Cnf.zero) (b := w.heap.size + 2) (off := 0) rfl rfl (cells_of_block x4) Try.underlying41 rfl (by kernel_rfl)) (.cons (.tmp rfl) .nil)) rfl ?_
  exact ⟨rfl, wb⟩
theorem rfetch_any (p : Prg) (il : List Inst) (c : Cnf) (m : Conf) (guess : Int) (w : World) (hp : PIs w p il) (hc : CfIs w c m) (hty : CfTy w c)
  (hln : m.buf.length ≤ 1000) (hsl : m.st.stack.length ≤ 1000) (hrl : m.rsb.length ≤ 1000) (hpcb : -2 ≤ m.st.pc ∧ m.st.pc ≤ 1000000) :
  Calls Try.prog 45 #[p.v, c.v, .int .i64 guess] w (CfGot (fetchQ p.window il m guess) w) := by
 unfold fetchQ
 split
 ·rename_i h
  refine (fetch_at p il c m guess w hp hc hty hln hsl hrl hpcb h.1 h.2).mono ?_
  rintro en w' ⟨c', rfl, hc', _, hb⟩
  exact ⟨c', rfl, hc', hb⟩
 ·rename_i h
  refine (rfetch_no p il c m guess w hp hc hln hrl (by omega)).mono ?_
  rintro en w' ⟨rfl, hb⟩
  exact ⟨Cnf.zero, rfl, CfIs.zero, hb⟩
end Go.Proofs.Ytchldbkjapnlcaa
end
