/- conf.Begin; and what the document fixes of conf holds: the law's own 'awake' answers true. -/
import Derived.Test.YtchldbkjapnlcaaJCnc
import Derived.Test.YtchldbkjapnlcaaJw
import Derived.Test.YtchldbkjapnlcaaJq
import Derived.Test.YtchldbkjapnlcaaJn
import Derived.Test.YtchldbkjapnlcaaJm
set_option linter.unusedVariables false
set_option linter.unusedSimpArgs false
section
namespace Go.Proofs.Ytchldbkjapnlcaa
open Go.RowKit

set_option maxRecDepth 100000 in
set_option maxHeartbeats 2000000 in
theorem cbegin_any (s : Stt) (m : State) (w : World) (h : StIs w s m) (hm : m.mem.length ≤ 1000) (hs : m.stack.length ≤ 1000) :
  Calls Try.prog 50 #[s.v] w fun en w' => ∃ c' : Stt, en = .returned (Cnf.v ⟨c', ⟨none, 0, 0⟩, ⟨none, 0, 0⟩, 0⟩) ∧ StOwn w' w.heap.size c' m ∧ Below w.heap.size w w' := by
 obtain ⟨r0, r1, r2, r3, ⟨mA, mN, mC⟩, ⟨sA, sN, sC⟩, pc⟩ := s
 have HC := Kept.mk h
 clear h
 go_enter Try.func50, Try.ntmps50
 go_wp2_with fail
 have bb := (below_alloc_self w (.cells #[.int .i64 r0, .int .i64 r1, .int .i64 r2, .int .i64 r3, .slice mA mN mC, .slice sA sN sC, .int .i64 pc] 36)).alloc (by simp) (.cells #[.int .i64 0, .int .i64 0, .int .i64 0, .int .i64 0, .slice none 0 0, .slice none 0 0, .int .i64 0, .slice none 0 0, .slice none 0 0, .int .i64 0] 41)
 have X2 := heap_alloc2_new w (.cells #[.int .i64 r0, .int .i64 r1, .int .i64 r2, .int .i64 r3, .slice mA mN mC, .slice sA sN sC, .int .i64 pc] 36) (.cells #[.int .i64 0, .int .i64 0, .int .i64 0, .int .i64 0, .slice none 0 0, .slice none 0 0, .int .i64 0, .slice none 0 0, .slice none 0 0, .int .i64 0] 41)
 have hsz : w.heap.size + 2 ≤ ((w.alloc (.cells #[.int .i64 r0, .int .i64 r1, .int .i64 r2, .int .i64 r3, .slice mA mN mC, .slice sA sN sC, .int .i64 pc] 36)).alloc (.cells #[.int .i64 0, .int .i64 0, .int .i64 0, .int .i64 0, .slice none 0 0, .slice none 0 0, .int .i64 0, .slice none 0 0, .slice none 0 0, .int .i64 0] 41)).heap.size := by simp
 have HC := Kept.mk (HC.out.past bb)
 have W2 := Kept.mk bb
 clear bb
 generalize (w.alloc (.cells #[.int .i64 r0, .int .i64 r1, .int .i64 r2, .int .i64 r3, .slice mA mN mC, .slice sA sN sC, .int .i64 pc] 36)).alloc (.cells #[.int .i64 0, .int .i64 0, .int .i64 0, .int .i64 0, .slice none 0 0, .slice none 0 0, .int .i64 0, .slice none 0 0, .slice none 0 0, .int .i64 0] 41) = w2 at *
 refine (astill_any ⟨r0, r1, r2, r3, ⟨mA, mN, mC⟩, ⟨sA, sN, sC⟩, pc⟩ m w2 HC.out hm hs).mono ?_
 rintro en w3 ⟨c', rfl, ho, b3⟩
 obtain ⟨x0, x1, x2, x3, ⟨xmA, xmN, xmC⟩, ⟨xsA, xsN, xsC⟩, xpc⟩ := c'
 have HO := Kept.mk ho
 have X2 := heap_keep X2 b3
 have W3 := Kept.mk (W2.out.trans (b3.mono W2.out.size))
 have Y2 := fun j => cell_of_row w3 (w.heap.size + 1) j _ _ _ X2
 have F2 := fun j => frozen_of_row w3 (w.heap.size + 1) j _ _ X2
 have K2 := Kept.mk X2
 clear X2 ho b3
 go_wp2_with fail
 have hlt : w.heap.size + 1 < w2.heap.size := by omega
 have hmem := own10I (g := w.heap.size + 1) (⟨⟨x0, x1, x2, x3, ⟨xmA, xmN, xmC⟩, ⟨xsA, xsN, xsC⟩, xpc⟩, ⟨none, 0, 0⟩, ⟨none, 0, 0⟩, 0⟩ : Cnf) HO.out.mem hlt
 have hstk := own10I (g := w.heap.size + 1) (⟨⟨x0, x1, x2, x3, ⟨xmA, xmN, xmC⟩, ⟨xsA, xsN, xsC⟩, xpc⟩, ⟨none, 0, 0⟩, ⟨none, 0, 0⟩, 0⟩ : Cnf) HO.out.stack hlt
 have hbel := below10 (g := w.heap.size + 1) (⟨⟨x0, x1, x2, x3, ⟨xmA, xmN, xmC⟩, ⟨xsA, xsN, xsC⟩, xpc⟩, ⟨none, 0, 0⟩, ⟨none, 0, 0⟩, 0⟩ : Cnf) W3.out (Nat.le_succ _)
 have hres := cnf_set2 (w := w3) (g := w.heap.size + 1) Cnf.zero (⟨⟨x0, x1, x2, x3, ⟨xmA, xmN, xmC⟩, ⟨xsA, xsN, xsC⟩, xpc⟩, ⟨none, 0, 0⟩, ⟨none, 0, 0⟩, 0⟩ : Cnf) K2.out
 dsimp only at hmem hstk hbel hres
 exact at_ret _ [Cnf.v (⟨⟨x0, x1, x2, x3, ⟨xmA, xmN, xmC⟩, ⟨xsA, xsN, xsC⟩, xpc⟩, ⟨none, 0, 0⟩, ⟨none, 0, 0⟩, 0⟩ : Cnf)] Try.results50 (.cons (.cell (cs := Cnf.cs (⟨⟨x0, x1, x2, x3, ⟨xmA, xmN, xmC⟩, ⟨xsA, xsN, xsC⟩, xpc⟩, ⟨none, 0, 0⟩, ⟨none, 0, 0⟩, 0⟩ : Cnf)) (b := w.heap.size + 1) (off := 0) rfl rfl (cells_of_block hres) Try.underlying41 rfl (by kernel_rfl)) .nil) rfl ⟨⟨x0, x1, x2, x3, ⟨xmA, xmN, xmC⟩, ⟨xsA, xsN, xsC⟩, xpc⟩, rfl, ⟨HO.out.r0, HO.out.r1, HO.out.r2, HO.out.r3, hmem.lower (by omega), hstk.lower (by omega), HO.out.pc, HO.out.dj⟩, hbel⟩
def M13 : Conf := ⟨⟨0, 0, 0, 0, [4], [], 0⟩, [], [], 0⟩
theorem m13_ints : cfInts M13 = [0, 0, 0, 0, 1, 4, 0, 0, 0, 0, 0] := rfl
theorem m13_64 : ∀ x ∈ cfInts M13, I64 x := by
 rw [m13_ints]
 intro x hx
 simp only [List.mem_cons, List.not_mem_nil, or_false] at hx
 unfold I64
 rcases hx with rfl | rfl | rfl | rfl | rfl | rfl | rfl | rfl | rfl | rfl | rfl <;> decide
set_option maxRecDepth 100000 in
set_option maxHeartbeats 2000000 in
theorem awake13 (w : World) : Calls Try.prog 49 #[] w (SaysTrue w) := by
 go_enter Try.func49, Try.ntmps49
 go_wp2_with fail
 have bb := below_alloc_self w (.cells #[.int .i64 4] 3)
 have XN := heap_alloc_new w (.cells #[.int .i64 4] 3)
 have W1 := Kept.mk bb
 clear bb
 generalize w.alloc (.cells #[.int .i64 4] 3) = w1 at *
 have HS : StIs w1 ⟨0, 0, 0, 0, ⟨some ⟨w.heap.size, 0, none⟩, 1, 1⟩, Sl.none, 0⟩ M13.st := ⟨rfl, rfl, rfl, rfl, ⟨rfl, Nat.le_refl _, reads_block (n := 1) (size := 1) XN rfl⟩, RdIs.nil, rfl⟩
 refine (cbegin_any ⟨0, 0, 0, 0, ⟨some ⟨w.heap.size, 0, none⟩, 1, 1⟩, Sl.none, 0⟩ M13.st w1 HS (by decide) (by decide)).mono ?_
 rintro en w2 ⟨c', rfl, ho, b2⟩
 obtain ⟨x0, x1, x2, x3, ⟨xmA, xmN, xmC⟩, ⟨xsA, xsN, xsC⟩, xpc⟩ := c'
 have hcx : CfIs w2 (⟨⟨x0, x1, x2, x3, ⟨xmA, xmN, xmC⟩, ⟨xsA, xsN, xsC⟩, xpc⟩, ⟨none, 0, 0⟩, ⟨none, 0, 0⟩, 0⟩ : Cnf) M13 := ⟨⟨ho.r0, ho.r1, ho.r2, ho.r3, OwnI.is (s := ⟨xmA, xmN, xmC⟩) ho.mem, OwnI.is (s := ⟨xsA, xsN, xsC⟩) ho.stack, ho.pc⟩, RdEs.nil, RdIs.nil, rfl⟩
 have W2 := Kept.mk (W1.out.trans (b2.mono W1.out.size))
 have HCX := Kept.mk hcx
 clear ho b2 hcx HS XN W1
 go_upto_region 2 with (fail)
 have bX := below_alloc_self w2 (.cells #[.int .i64 (x0), .int .i64 (x1), .int .i64 (x2), .int .i64 (x3), .slice xmA xmN xmC, .slice xsA xsN xsC, .int .i64 (xpc), .slice none 0 0, .slice none 0 0, .int .i64 (0)] 41)
 have X1 := heap_alloc_new w2 (.cells #[.int .i64 (x0), .int .i64 (x1), .int .i64 (x2), .int .i64 (x3), .slice xmA xmN xmC, .slice xsA xsN xsC, .int .i64 (xpc), .slice none 0 0, .slice none 0 0, .int .i64 (0)] 41)
 have HCX := Kept.mk (HCX.out.past bX)
 have W3 := Kept.mk (W2.out.trans (bX.mono W2.out.size))
 clear bX W2
 generalize w2.alloc (.cells #[.int .i64 (x0), .int .i64 (x1), .int .i64 (x2), .int .i64 (x3), .slice xmA xmN xmC, .slice xsA xsN xsC, .int .i64 (xpc), .slice none 0 0, .slice none 0 0, .int .i64 (0)] 41) = w3 at *
 generalize w2.heap.size = S1 at *
 have Y1 := fun j => cell_of_row w3 S1 j _ _ _ X1
 go_wp2_with fail
 refine (conf_code (⟨⟨x0, x1, x2, x3, ⟨xmA, xmN, xmC⟩, ⟨xsA, xsN, xsC⟩, xpc⟩, ⟨none, 0, 0⟩, ⟨none, 0, 0⟩, 0⟩ : Cnf) M13 w3 HCX.out m13_64 (by decide) (by decide) (by decide) (by decide)).mono ?_
 rintro en w4 ⟨v4, rfl, ob, b4⟩
 rw [m13_ints] at ob
 obtain ⟨bA, bC, rfl, hbc, rb⟩ := ob.shape
 have hl11 : (putL [0, 0, 0, 0, 1, 4, 0, 0, 0, 0, 0]).length = 11 := rfl
 rw [hl11] at hbc ⊢
 have X1 := heap_keep X1 b4
 have HCX := Kept.mk (HCX.out.past b4)
 have W4 := Kept.mk (W3.out.trans (b4.mono W3.out.size))
 have HBY := Kept.mk rb
 clear Y1 b4 ob rb W3
 go_wp2_with fail
 refine (parse_any bA 11 bC (putL [0, 0, 0, 0, 1, 4, 0, 0, 0, 0, 0]) w4 hl11 hbc HBY.out (by decide)).mono ?_
 rintro en w5 ⟨cy, ok, rfl, b5, hy, hn⟩
 have hok : ok = true := by
  cases ok with
  | true => rfl
  | false => exact absurd (by rw [m13_ints]) ((hn rfl).2 M13 m13_64)
 subst hok
 obtain ⟨my, hcy, -, hput, h64y, -⟩ := hy rfl
 have hmy : my = M13 := cfInts_inj (putL_inj _ _ h64y m13_64 (by rw [hput, m13_ints]))
 subst hmy
 obtain ⟨⟨y0, y1, y2, y3, ⟨ymA, ymN, ymC⟩, ⟨ysA, ysN, ysC⟩, ypc⟩, ⟨ybA, ybN, ybC⟩, ⟨yqA, yqN, yqC⟩, yf⟩ := cy
 have X1 := heap_keep X1 b5
 have HCX := Kept.mk (HCX.out.past b5)
 have HBY := Kept.mk (HBY.out.past b5)
 have W5 := Kept.mk (W4.out.trans (b5.mono W4.out.size))
 have HCY := Kept.mk hcy
 clear hy hn hput h64y hcy b5 W4
 go_upto_region 4 with (fail)
 have bX := below_alloc_self w5 (.cells #[.int .i64 (y0), .int .i64 (y1), .int .i64 (y2), .int .i64 (y3), .slice ymA ymN ymC, .slice ysA ysN ysC, .int .i64 (ypc), .slice ybA ybN ybC, .slice yqA yqN yqC, .int .i64 (yf)] 41)
 have X3 := heap_alloc_new w5 (.cells #[.int .i64 (y0), .int .i64 (y1), .int .i64 (y2), .int .i64 (y3), .slice ymA ymN ymC, .slice ysA ysN ysC, .int .i64 (ypc), .slice ybA ybN ybC, .slice yqA yqN yqC, .int .i64 (yf)] 41)
 have X1 := heap_keep X1 bX
 have HCX := Kept.mk (HCX.out.past bX)
 have HCY := Kept.mk (HCY.out.past bX)
 have HBY := Kept.mk (HBY.out.past bX)
 have W6 := Kept.mk (W5.out.trans (bX.mono W5.out.size))
 clear bX W5
 generalize w5.alloc (.cells #[.int .i64 (y0), .int .i64 (y1), .int .i64 (y2), .int .i64 (y3), .slice ymA ymN ymC, .slice ysA ysN ysC, .int .i64 (ypc), .slice ybA ybN ybC, .slice yqA yqN yqC, .int .i64 (yf)] 41) = w6 at *
 generalize w5.heap.size = S3 at *
 have h5 : 5 ≤ bC := by omega
 have h5' : (5 : Int) ≤ (bC : Int) := by omega
 go_wp2_with fail
 have HB5 := Kept.mk (RdB.to HBY.out (k := 5) (by rw [hl11]; decide))
 refine (parse_any bA 5 bC ((putL [0, 0, 0, 0, 1, 4, 0, 0, 0, 0, 0]).take 5) w6 rfl h5 HB5.out (by decide)).mono ?_
 rintro en w7 ⟨cz, no, rfl, b7, hy, hn⟩
 have hno : no = false := by
  cases no with
  | false => rfl
  | true =>
   obtain ⟨mz, -, -, -, -, hlz⟩ := hy rfl
   rw [cfInts_length] at hlz
   have : ((putL [0, 0, 0, 0, 1, 4, 0, 0, 0, 0, 0]).take 5).length = 5 := rfl
   omega
 subst hno
 obtain ⟨⟨z0, z1, z2, z3, ⟨zmA, zmN, zmC⟩, ⟨zsA, zsN, zsC⟩, zpc⟩, ⟨zbA, zbN, zbC⟩, ⟨zqA, zqN, zqC⟩, zf⟩ := cz
 have X1 := heap_keep X1 b7
 have X3 := heap_keep X3 b7
 have HCX := Kept.mk (HCX.out.past b7)
 have HCY := Kept.mk (HCY.out.past b7)
 have HBY := Kept.mk (HBY.out.past b7)
 have W7 := Kept.mk (W6.out.trans (b7.mono W6.out.size))
 clear hy hn b7 W6 HB5
 go_upto_region 5 with (fail)
 have bX := below_alloc_self w7 (.cells #[.int .i64 (z0), .int .i64 (z1), .int .i64 (z2), .int .i64 (z3), .slice zmA zmN zmC, .slice zsA zsN zsC, .int .i64 (zpc), .slice zbA zbN zbC, .slice zqA zqN zqC, .int .i64 (zf)] 41)
 have X1 := heap_keep X1 bX
 have X3 := heap_keep X3 bX
 have HCX := Kept.mk (HCX.out.past bX)
 have HCY := Kept.mk (HCY.out.past bX)
 have HBY := Kept.mk (HBY.out.past bX)
 have W9 := Kept.mk (W7.out.trans (bX.mono W7.out.size))
 clear bX W7
 generalize w7.alloc (.cells #[.int .i64 (z0), .int .i64 (z1), .int .i64 (z2), .int .i64 (z3), .slice zmA zmN zmC, .slice zsA zsN zsC, .int .i64 (zpc), .slice zbA zbN zbC, .slice zqA zqN zqC, .int .i64 (zf)] 41) = w9 at *
 have XK1 : Kept (∀ w1, Below w9.heap.size w9 w1 → CellsAt w1 S1 0 [.int .i64 (x0), .int .i64 (x1), .int .i64 (x2), .int .i64 (x3), .slice xmA xmN xmC, .slice xsA xsN xsC, .int .i64 (xpc), .slice none 0 0, .slice none 0 0, .int .i64 (0)]) := ⟨fun w1 hb => CellsAt.of_block (heap_keep X1 hb)⟩
 have XK3 : Kept (∀ w1, Below w9.heap.size w9 w1 → CellsAt w1 S3 0 [.int .i64 (y0), .int .i64 (y1), .int .i64 (y2), .int .i64 (y3), .slice ymA ymN ymC, .slice ysA ysN ysC, .int .i64 (ypc), .slice ybA ybN ybC, .slice yqA yqN yqC, .int .i64 (yf)]) := ⟨fun w1 hb => CellsAt.of_block (heap_keep X3 hb)⟩
 clear X1 X3
 refine region_tell (w9.heap.size) (G := fun _ => True) (ts := [
   .is (Value.slice bA 11 bC),
   .is (.string ⟨(putL [0, 0, 0, 0, 1, 4, 0, 0, 0, 0, 0]).toArray⟩),
   .makes (fun v w => ∃ g : Nat, v = .slice (some ⟨g, 0, none⟩) 11 11 ∧ w.heap[g]? = some (.cells (intCs [0, 0, 0, 0, 1, 4, 0, 0, 0, 0, 0]).toArray 3 (0, 0))),
   .makes (fun v w' => OwnB w' w9.heap.size v (putL [0, 0, 0, 0, 1, 4, 0, 0, 0, 0, 0])),
   .is (.string ⟨(putL [0, 0, 0, 0, 1, 4, 0, 0, 0, 0, 0]).toArray⟩),
   .is (.bool true),
   .is (Value.bool true),
   .is (Value.bool true),
   .is (Value.bool true),
   .is (Value.bool true),
   .is (Value.agg #[.int .i64 (y0), .int .i64 (y1), .int .i64 (y2), .int .i64 (y3), .slice ymA ymN ymC, .slice ysA ysN ysC, .int .i64 (ypc), .slice ybA ybN ybC, .slice yqA yqN yqC, .int .i64 (yf)]),
   .is (Value.agg #[.int .i64 (x0), .int .i64 (x1), .int .i64 (x2), .int .i64 (x3), .slice xmA xmN xmC, .slice xsA xsN xsC, .int .i64 (xpc), .slice none 0 0, .slice none 0 0, .int .i64 (0)]),
   .draws (.bool true),
   .is (Value.bool true),
   .is (Value.bool true),
   .is (Value.bool false),
   .is (Value.bool true),
   .is (Value.bool true),
   .is (Value.bool true),
   .is (Value.agg #[.int .i64 (x0), .int .i64 (x1), .int .i64 (x2), .int .i64 (x3), .slice xmA xmN xmC, .slice xsA xsN xsC, .int .i64 (xpc), .slice none 0 0, .slice none 0 0, .int .i64 (0)]),
   .draws (.bool false),
   .is (Value.bool true),
   .is (Value.bool true),
   .is (Value.bool true),
   .is (Value.agg #[.int .i64 (0), .int .i64 (0), .int .i64 (0), .int .i64 (0), .slice none 0 0, .slice none 0 0, .int .i64 (0), .slice none 0 0, .slice none 0 0, .int .i64 (1)]),
   .draws (.bool true),
   .is (Value.bool true),
   .is (Value.bool true)])
  (fin := []) (cs := []) (by kernel_rfl) rfl (by kernel_rfl) (by kernel_rfl)
  ⟨trivial, trivial, (fun _ _ _ ⟨g, h1, h2⟩ hb => ⟨g, h1, heap_keep h2 hb⟩), (fun _ _ _ h hb => OwnB.past h hb), trivial, trivial, trivial, trivial, trivial, trivial, trivial, trivial, trivial, trivial, trivial, trivial, trivial, trivial, trivial, trivial, trivial, trivial, trivial, trivial, trivial, trivial, trivial, trivial, trivial⟩ (fun _ _ _ _ => trivial) (by simp) (by simp) trivial
  ⟨?_, ?_, ?_, ?_, ?_, ?_, ?_, ?_, ?_, ?_, ?_, ?_, ?_, ?_, ?_, ?_, ?_, ?_, ?_, ?_, ?_, ?_, ?_, ?_, ?_, ?_, ?_, ?_, trivial⟩ ?_
 ·intro vals w1 hB _ hd
  clear hd
  refine one_value (v := Value.slice bA 11 bC) rfl ?_ (post_is rfl)
  kernel_rfl
 ·intro vals w1 hB _ hd
  clear hd
  refine one_value (v := .string ⟨(putL [0, 0, 0, 0, 1, 4, 0, 0, 0, 0, 0]).toArray⟩) rfl ?_ (post_is rfl)
  have hst := run_string (w := w1) (c := bC) (HBY.out.past hB) (n := 11) rfl
  simp only [fillT, Tell.is, Tell.draws, Tell.makes, Tell.gets, Act.put, List.setIfInBounds_toArray, List.set_cons_zero, List.set_cons_succ]
  go_simp
 ·intro vals w1 hB _ hd
  clear hd
  exact one_makes (v := .slice (some ⟨w1.heap.size, 0, none⟩) 11 11) (w' := w1.alloc (.cells (intCs [0, 0, 0, 0, 1, 4, 0, 0, 0, 0, 0]).toArray 3)) rfl (by kernel_rfl) (post_makes rfl ⟨w1.heap.size, rfl, heap_alloc_new w1 _⟩ (below_alloc_self _ _))
 ·intro vals w1 hB _ hd
  obtain ⟨g, e2, hh⟩ : ∃ g : Nat, vals 2 = .slice (some ⟨g, 0, none⟩) 11 11 ∧ w1.heap[g]? = some (.cells (intCs [0, 0, 0, 0, 1, 4, 0, 0, 0, 0, 0]).toArray 3 (0, 0)) := hd 2 (by kernel_rfl)
  clear hd
  refine one_calls (f := 47) (args := #[.slice (some ⟨g, 0, none⟩) 11 11]) (w1 := w1) rfl (by rw [vals_at e2]; kernel_rfl) ?_
  refine (ref_putx (some ⟨g, 0, none⟩) 11 11 [0, 0, 0, 0, 1, 4, 0, 0, 0, 0, 0] w1 rfl (reads_block (n := 11) (size := 1) hh rfl) (by decide)).mono ?_
  rintro e1 w3 ⟨v3, rfl, ho, hb⟩
  exact ⟨_, rfl, post_makes rfl (OwnB.lower ho hB.size) hb⟩
 ·intro vals w1 hB _ hd
  have da : OwnB w1 w9.heap.size (vals 3) (putL [0, 0, 0, 0, 1, 4, 0, 0, 0, 0, 0]) := hd 3 (by kernel_rfl)
  clear hd
  obtain ⟨A5, c5, e5, _, r5⟩ := OwnB.shape da
  refine one_value (v := .string ⟨(putL [0, 0, 0, 0, 1, 4, 0, 0, 0, 0, 0]).toArray⟩) rfl ?_ (post_is rfl)
  rw [vals_at e5]
  have hst := run_string (w := w1) (c := c5) (n := 11) r5 rfl
  simp only [fillT, Tell.is, Tell.draws, Tell.makes, Tell.gets, Act.put, List.setIfInBounds_toArray, List.set_cons_zero, List.set_cons_succ]
  go_simp
 ·intro vals w1 hB _ hd
  clear hd
  refine one_value (v := .bool true) rfl ?_ (post_is rfl)
  refine Eq.trans (b := .ok (.value (.bool (((⟨(putL [0, 0, 0, 0, 1, 4, 0, 0, 0, 0, 0]).toArray⟩ : ByteArray).toList == (⟨(putL [0, 0, 0, 0, 1, 4, 0, 0, 0, 0, 0]).toArray⟩ : ByteArray).toList)))) w1) (by kernel_rfl) ?_
  rw [str_eq, decide_eq_true rfl]
 ·intro vals w1 hB _ hd
  clear hd
  refine one_value (v := Value.bool true) rfl ?_ (post_is rfl)
  kernel_rfl
 ·intro vals w1 hB _ hd
  clear hd
  refine one_value_g (v := Value.bool true) (by kernel_rfl) ?_ (post_is rfl)
  kernel_rfl
 ·intro vals w1 hB _ hd
  clear hd
  refine one_value (v := Value.bool true) rfl ?_ (post_is rfl)
  kernel_rfl
 ·intro vals w1 hB _ hd
  clear hd
  refine one_value (v := Value.bool true) rfl ?_ (post_is rfl)
  kernel_rfl
 ·intro vals w1 hB _ hd
  clear hd
  refine one_value_g (v := Value.agg #[.int .i64 (y0), .int .i64 (y1), .int .i64 (y2), .int .i64 (y3), .slice ymA ymN ymC, .slice ysA ysN ysC, .int .i64 (ypc), .slice ybA ybN ybC, .slice yqA yqN yqC, .int .i64 (yf)]) (by kernel_rfl) ?_ (post_is rfl)
  exact exec_load_row rfl (b := S3) (off := 0) (by kernel_rfl) [.int .i64 (y0), .int .i64 (y1), .int .i64 (y2), .int .i64 (y3), .slice ymA ymN ymC, .slice ysA ysN ysC, .int .i64 (ypc), .slice ybA ybN ybC, .slice yqA yqN yqC, .int .i64 (yf)] (XK3.out w1 hB) Try.underlying41 rfl (by kernel_rfl)
 ·intro vals w1 hB _ hd
  clear hd
  refine one_value_g (v := Value.agg #[.int .i64 (x0), .int .i64 (x1), .int .i64 (x2), .int .i64 (x3), .slice xmA xmN xmC, .slice xsA xsN xsC, .int .i64 (xpc), .slice none 0 0, .slice none 0 0, .int .i64 (0)]) (by kernel_rfl) ?_ (post_is rfl)
  exact exec_load_row rfl (b := S1) (off := 0) (by kernel_rfl) [.int .i64 (x0), .int .i64 (x1), .int .i64 (x2), .int .i64 (x3), .slice xmA xmN xmC, .slice xsA xsN xsC, .int .i64 (xpc), .slice none 0 0, .slice none 0 0, .int .i64 (0)] (XK1.out w1 hB) Try.underlying41 rfl (by kernel_rfl)
 ·intro vals w1 hB _ hd
  clear hd
  refine one_calls_g (f := 30) (args := #[.agg #[.int .i64 (y0), .int .i64 (y1), .int .i64 (y2), .int .i64 (y3), .slice ymA ymN ymC, .slice ysA ysN ysC, .int .i64 (ypc), .slice ybA ybN ybC, .slice yqA yqN yqC, .int .i64 (yf)], .agg #[.int .i64 (x0), .int .i64 (x1), .int .i64 (x2), .int .i64 (x3), .slice xmA xmN xmC, .slice xsA xsN xsC, .int .i64 (xpc), .slice none 0 0, .slice none 0 0, .int .i64 (0)]]) (w1 := w1) (by kernel_rfl) (by kernel_rfl) ?_
  refine (same9 (⟨⟨y0, y1, y2, y3, ⟨ymA, ymN, ymC⟩, ⟨ysA, ysN, ysC⟩, ypc⟩, ⟨ybA, ybN, ybC⟩, ⟨yqA, yqN, yqC⟩, yf⟩ : Cnf) (⟨⟨x0, x1, x2, x3, ⟨xmA, xmN, xmC⟩, ⟨xsA, xsN, xsC⟩, xpc⟩, ⟨none, 0, 0⟩, ⟨none, 0, 0⟩, 0⟩ : Cnf) M13 M13 w1 (HCY.out.past hB) (HCX.out.past hB) (by decide) (by decide) (by decide) (by decide) (by decide) (by decide) (by decide) (by decide)).mono ?_
  rw [decide_eq_true rfl]
  rintro e1 w3 ⟨rfl, hb⟩
  exact ⟨_, rfl, post_draws rfl hb⟩
 ·intro vals w1 hB _ hd
  clear hd
  refine one_value (v := Value.bool true) rfl ?_ (post_is rfl)
  kernel_rfl
 ·intro vals w1 hB _ hd
  clear hd
  refine one_value (v := Value.bool true) rfl ?_ (post_is rfl)
  kernel_rfl
 ·intro vals w1 hB _ hd
  clear hd
  refine one_value_g (v := Value.bool false) (by kernel_rfl) ?_ (post_is rfl)
  kernel_rfl
 ·intro vals w1 hB _ hd
  clear hd
  refine one_value_g (v := Value.bool true) (by kernel_rfl) ?_ (post_is rfl)
  kernel_rfl
 ·intro vals w1 hB _ hd
  clear hd
  refine one_value (v := Value.bool true) rfl ?_ (post_is rfl)
  kernel_rfl
 ·intro vals w1 hB _ hd
  clear hd
  refine one_value (v := Value.bool true) rfl ?_ (post_is rfl)
  kernel_rfl
 ·intro vals w1 hB _ hd
  clear hd
  refine one_value_g (v := Value.agg #[.int .i64 (x0), .int .i64 (x1), .int .i64 (x2), .int .i64 (x3), .slice xmA xmN xmC, .slice xsA xsN xsC, .int .i64 (xpc), .slice none 0 0, .slice none 0 0, .int .i64 (0)]) (by kernel_rfl) ?_ (post_is rfl)
  exact exec_load_row rfl (b := S1) (off := 0) (by kernel_rfl) [.int .i64 (x0), .int .i64 (x1), .int .i64 (x2), .int .i64 (x3), .slice xmA xmN xmC, .slice xsA xsN xsC, .int .i64 (xpc), .slice none 0 0, .slice none 0 0, .int .i64 (0)] (XK1.out w1 hB) Try.underlying41 rfl (by kernel_rfl)
 ·intro vals w1 hB _ hd
  clear hd
  refine one_calls_g (f := 51) (args := #[.agg #[.int .i64 (x0), .int .i64 (x1), .int .i64 (x2), .int .i64 (x3), .slice xmA xmN xmC, .slice xsA xsN xsC, .int .i64 (xpc), .slice none 0 0, .slice none 0 0, .int .i64 (0)]]) (w1 := w1) (by kernel_rfl) (by kernel_rfl) ?_
  refine (final_any (⟨⟨x0, x1, x2, x3, ⟨xmA, xmN, xmC⟩, ⟨xsA, xsN, xsC⟩, xpc⟩, ⟨none, 0, 0⟩, ⟨none, 0, 0⟩, 0⟩ : Cnf) w1).mono ?_
  rintro e1 w3 ⟨rfl, hb⟩
  exact ⟨_, rfl, post_draws rfl hb⟩
 ·intro vals w1 hB _ hd
  clear hd
  refine one_value_g (v := Value.bool true) (by kernel_rfl) ?_ (post_is rfl)
  kernel_rfl
 ·intro vals w1 hB _ hd
  clear hd
  refine one_value (v := Value.bool true) rfl ?_ (post_is rfl)
  kernel_rfl
 ·intro vals w1 hB _ hd
  clear hd
  refine one_value (v := Value.bool true) rfl ?_ (post_is rfl)
  kernel_rfl
 ·intro vals w1 hB _ hd
  clear hd
  refine one_value_g (v := Value.agg #[.int .i64 (0), .int .i64 (0), .int .i64 (0), .int .i64 (0), .slice none 0 0, .slice none 0 0, .int .i64 (0), .slice none 0 0, .slice none 0 0, .int .i64 (1)]) (by kernel_rfl) ?_ (post_is rfl)
  kernel_rfl
 ·intro vals w1 hB _ hd
  clear hd
  refine one_calls_g (f := 51) (args := #[Cnf.v ⟨⟨0, 0, 0, 0, Sl.none, Sl.none, 0⟩, Sl.none, Sl.none, 1⟩]) (w1 := w1) (by kernel_rfl) (by kernel_rfl) ?_
  refine (final_any ⟨⟨0, 0, 0, 0, Sl.none, Sl.none, 0⟩, Sl.none, Sl.none, 1⟩ w1).mono ?_
  rintro e1 w3 ⟨rfl, hb⟩
  exact ⟨_, rfl, post_draws rfl hb⟩
 ·intro vals w1 hB _ hd
  clear hd
  refine one_value (v := Value.bool true) rfl ?_ (post_is rfl)
  kernel_rfl
 ·intro vals w1 hB _ hd
  clear hd
  refine one_value (v := Value.bool true) rfl ?_ (post_is rfl)
  kernel_rfl
 intro vals w15 b15 _ hr
 clear hr
 simp only [fillT, Tell.is, Tell.draws, Tell.makes, Act.put, List.setIfInBounds_toArray, List.set_cons_zero, List.set_cons_succ]
 have W15 := Kept.mk (W9.out.trans (b15.mono W9.out.size))
 go_wp2_with fail
 go_ret
 exact ⟨rfl, W15.out⟩
end Go.Proofs.Ytchldbkjapnlcaa
end
