/- The document's own answer, layer 17: what is said. The document's own answer, layer 17: all that may be said. Walks, layer 10: the region that says what a number chooses. Walks, layer 10: where a machine comes to. -/
import Derived.Test.YtchldbkjapnlcaaJRet
import Derived.Test.YtchldbkjapnlcaaJe
import Derived.Test.YtchldbkjapnlcaaJd
set_option linter.unusedVariables false
set_option linter.unusedSimpArgs false
section
namespace Go.Proofs.Ytchldbkjapnlcaa
open Go.RowKit

def SayPost (m : Conf) (w : World) (en : Ending) (w' : World) : Prop := ∃ (c : Cnf) (ov : Value), en = .returned (.tuple #[c.v, ov, .bool true]) ∧ CfIs w' c m ∧ CfTy w' c ∧ Below w.heap.size w w'
theorem CfAll.of {w : World} {c : Cnf} {m : Conf} (h : CfIs w c m) (ht : CfTy w c) : CfAll w c.st.mem c.st.stack c.rsb c.buf m.st.mem m.st.stack m.rsb m.buf := ⟨CfRest.of h ht, h.buf, ht.buf⟩
theorem CfAll.cf {w w' : World} {c : Cnf} {m : Conf} (h : CfAll w' c.st.mem c.st.stack c.rsb c.buf m.st.mem m.st.stack m.rsb m.buf) (h0 : CfIs w c m) : CfIs w' c m := ⟨⟨h0.st.r0, h0.st.r1, h0.st.r2, h0.st.r3, h.r.xa, h.r.xb, h0.st.pc⟩, h.xd, h.r.xc, h0.fin⟩
theorem CfAll.ty {w : World} {c : Cnf} {la lb lc : List Int} {ld : List Ent} (h : CfAll w c.st.mem c.st.stack c.rsb c.buf la lb lc ld) : CfTy w c := ⟨h.r.ta, h.r.tb, h.td, h.r.tc⟩
theorem DoPost.say {w w' : World} {c : Cnf} {m : Conf} {l : List Ent} {pc : Int} {en : Ending} (h : DoPost c l pc w en w') (hc : CfIs w c m) (ht : CfTy w c) : SayPost { m with st := { m.st with pc := pc }, buf := l } w en w' := by
 obtain ⟨c', ov, e, h1, h2, h3, h4, hb⟩ := h
 have hp := hc.past hb
 have tp := ht.past hb
 refine ⟨c', ov, e, ⟨?_, OwnE.is h2, by rw [h3]; exact hp.rsb, by rw [h4]; exact hp.fin⟩, ⟨?_, ?_, Tag.of_own h2, by rw [h3]; exact tp.rsb⟩, hb⟩
 ·rw [h1]
  exact ⟨hp.st.r0, hp.st.r1, hp.st.r2, hp.st.r3, hp.st.mem, hp.st.stack, rfl⟩
 ·rw [h1]
  exact tp.mem
 ·rw [h1]
  exact tp.stack
set_option maxRecDepth 100000 in
set_option maxHeartbeats 8000000 in
theorem say_fetch (p : Prg) (il : List Inst) (c : Cnf) (m : Conf) (n : Int) (w : World) (hp : PIs w p il) (hc : CfIs w c m) (hty : CfTy w c) (hln : m.buf.length ≤ 1000) (hsl : m.st.stack.length ≤ 1000) (hrl : m.rsb.length ≤ 1000) (hpcb : -2 ≤ m.st.pc ∧ m.st.pc ≤ 1000000) (hg0 : 0 ≤ n) (hg : n < guessesOf p.window il m) :
  Calls Try.prog 38 #[p.v, c.v, .agg #[.int .i64 1, .int .i64 n]] w (SayPost (fetchOf il m n) w) := by
 have HP := Kept.mk hp
 have HC := Kept.mk hc
 have HTY := Kept.mk hty
 have HQ := Kept.mk (fun w1 (h1 : PIs w1 p il) (h2 : CfIs w1 c m) (h3 : CfTy w1 c) => fetch_at p il c m n w1 h1 h2 h3 hln hsl hrl hpcb hg0 hg)
 clear hp hln hsl hrl hpcb hg0 hg
 generalize (fetchOf il m n) = RR at *
 obtain ⟨⟨r0, r1, r2, r3, ⟨mA, mN, mC⟩, ⟨sA, sN, sC⟩, pc⟩, ⟨bA, bN, bC⟩, ⟨qA, qN, qC⟩, fin⟩ := c
 clear hc hty
 go_enter Try.func38, Try.ntmps38
 go_wp2_with fail
 have HB := Kept.mk ((((below_alloc_self w (.cells p.cs.toArray 33)).alloc (by simp) (.cells (Cnf.cs ⟨⟨r0, r1, r2, r3, ⟨mA, mN, mC⟩, ⟨sA, sN, sC⟩, pc⟩, ⟨bA, bN, bC⟩, ⟨qA, qN, qC⟩, fin⟩).toArray 41)).alloc (by simp; omega) (.cells #[.int .i64 1, .int .i64 n] 71)).alloc (by simp; omega) (.cells Cnf.zero.cs.toArray 41))
 refine (HQ.out _ (HP.out.past HB.out) (HC.out.past HB.out) (HTY.out.past HB.out)).mono ?_
 rintro en w1 ⟨c1, rfl, hc1, ht1, b1⟩
 have X6 := (b1.block (w.heap.size + 1 + 1 + 1) (by simp <;> omega)).trans (heap_at_new (o := (.cells Cnf.zero.cs.toArray 41)) (by simp))
 have W1 := Kept.mk (HB.out.trans (b1.mono HB.out.size))
 have S1 : w.heap.size + 4 ≤ w1.heap.size := by have := b1.size; simp at this; omega
 have RA := Kept.mk (CfAll.of hc1 ht1)
 obtain ⟨⟨a0, a1, a2, a3, ⟨eA, eN, eC⟩, ⟨fA, fN, fC⟩, a4⟩, ⟨gA, gN, gC⟩, ⟨hA, hN, hC⟩, a5⟩ := c1
 have HC1 := Kept.mk hc1
 have K6 := Kept.mk X6
 have Y6 := fun j => cell_of_row w1 (w.heap.size + 1 + 1 + 1) j _ _ _ X6
 have F6 := fun j => frozen_of_row w1 (w.heap.size + 1 + 1 + 1) j _ _ X6
 have Y6a := fun ob j => cell_of_row (w1.alloc ob) (w.heap.size + 1 + 1 + 1) j _ _ _ (heap_keep X6 (below_alloc_self w1 ob))
 have F6a := fun ob j => frozen_of_row (w1.alloc ob) (w.heap.size + 1 + 1 + 1) j _ _ (heap_keep X6 (below_alloc_self w1 ob))
 simp only [Cnf.cs, Cnf.zero, Sl.none] at Y6 Y6a
 have hn6 : w.heap.size + 1 + 1 + 1 ≠ w1.heap.size := by omega
 clear X6 b1 hc1 ht1
 go_wp2_with fail
 have hbW : Below w1.heap.size w1 (w1.alloc (.cells (Cnf.cs ⟨⟨a0, a1, a2, a3, ⟨eA, eN, eC⟩, ⟨fA, fN, fC⟩, a4⟩, ⟨gA, gN, gC⟩, ⟨hA, hN, hC⟩, a5⟩).toArray 41)) := below_alloc_self _ _
 have x6 := heap_keep K6.out hbW
 have ra := (RA.out.past hbW).row ⟨⟨_, x6⟩, grown10 _ (w.heap.size + 1 + 1 + 1) ⟨⟨a0, a1, a2, a3, ⟨eA, eN, eC⟩, ⟨fA, fN, fC⟩, a4⟩, ⟨gA, gN, gC⟩, ⟨hA, hN, hC⟩, a5⟩⟩ (by decide) (by decide)
 have wb := below10 (g := w.heap.size + 1 + 1 + 1) ⟨⟨a0, a1, a2, a3, ⟨eA, eN, eC⟩, ⟨fA, fN, fC⟩, a4⟩, ⟨gA, gN, gC⟩, ⟨hA, hN, hC⟩, a5⟩ (W1.out.trans (hbW.mono W1.out.size)) (by omega)
 have x4 := cnf_set2 Cnf.zero ⟨⟨a0, a1, a2, a3, ⟨eA, eN, eC⟩, ⟨fA, fN, fC⟩, a4⟩, ⟨gA, gN, gC⟩, ⟨hA, hN, hC⟩, a5⟩ x6
 dsimp only at ra wb x4
 refine at_ret _ [Cnf.v ⟨⟨a0, a1, a2, a3, ⟨eA, eN, eC⟩, ⟨fA, fN, fC⟩, a4⟩, ⟨gA, gN, gC⟩, ⟨hA, hN, hC⟩, a5⟩, .slice none 0 0, .bool true] Try.results38 (.cons (.cell (cs := Cnf.cs ⟨⟨a0, a1, a2, a3, ⟨eA, eN, eC⟩, ⟨fA, fN, fC⟩, a4⟩, ⟨gA, gN, gC⟩, ⟨hA, hN, hC⟩, a5⟩) (b := w.heap.size + 1 + 1 + 1) (off := 0) rfl rfl (cells_of_block x4) Try.underlying41 rfl (by kernel_rfl)) (.cons (.tmp rfl) (.cons (.tmp rfl) .nil))) rfl ?_
 exact ⟨⟨⟨a0, a1, a2, a3, ⟨eA, eN, eC⟩, ⟨fA, fN, fC⟩, a4⟩, ⟨gA, gN, gC⟩, ⟨hA, hN, hC⟩, a5⟩, .slice none 0 0, rfl, ra.cf HC1.out, ra.ty, wb⟩
set_option maxRecDepth 100000 in
set_option maxHeartbeats 8000000 in
theorem say_do (p : Prg) (il : List Inst) (c : Cnf) (m : Conf) (k : Nat) (hk : k < m.buf.length) (w : World) (hp : PIs w p il) (hc : CfIs w c m) (hty : CfTy w c) (hW : p.W = 1 ∨ p.W = 2) (hop : ∀ y ∈ il, (y.kind = 1 ∨ y.kind = 5) → 1 ≤ y.op ∧ y.op ≤ 10) (hln : m.buf.length ≤ 1000) (hml : m.st.mem.length ≤ 1000) (hsl : m.st.stack.length ≤ 1000) (hcan : canOf p.W il m k = true) :
  Calls Try.prog 38 #[p.v, c.v, .agg #[.int .i64 2, .int .i64 (k : Int)]] w (SayPost ({ m with st := { m.st with pc := (doOut p.W il m k { m.buf[k] with done := true } (instAt il m.buf[k].pc)).2 }, buf := (doOut p.W il m k { m.buf[k] with done := true } (instAt il m.buf[k].pc)).1 } : Conf) w) := by
 have HP := Kept.mk hp
 have HC := Kept.mk hc
 have HTY := Kept.mk hty
 have HQ := Kept.mk (fun w1 (h1 : PIs w1 p il) (h2 : CfIs w1 c m) (h3 : CfTy w1 c) => (do_at p il c m k hk w1 h1 hW hop h2 hln hml hsl hcan).mono (fun en w' h => h.say h2 h3))
 clear hp hW hop hln hml hsl hcan
 generalize ({ m with st := { m.st with pc := (doOut p.W il m k { m.buf[k] with done := true } (instAt il m.buf[k].pc)).2 }, buf := (doOut p.W il m k { m.buf[k] with done := true } (instAt il m.buf[k].pc)).1 } : Conf) = RR at *
 obtain ⟨⟨r0, r1, r2, r3, ⟨mA, mN, mC⟩, ⟨sA, sN, sC⟩, pc⟩, ⟨bA, bN, bC⟩, ⟨qA, qN, qC⟩, fin⟩ := c
 clear hc hty
 go_enter Try.func38, Try.ntmps38
 go_wp2_with fail
 have HB := Kept.mk ((((below_alloc_self w (.cells p.cs.toArray 33)).alloc (by simp) (.cells (Cnf.cs ⟨⟨r0, r1, r2, r3, ⟨mA, mN, mC⟩, ⟨sA, sN, sC⟩, pc⟩, ⟨bA, bN, bC⟩, ⟨qA, qN, qC⟩, fin⟩).toArray 41)).alloc (by simp; omega) (.cells #[.int .i64 2, .int .i64 (k : Int)] 71)).alloc (by simp; omega) (.cells Cnf.zero.cs.toArray 41))
 refine (HQ.out _ (HP.out.past HB.out) (HC.out.past HB.out) (HTY.out.past HB.out)).mono ?_
 rintro en w1 ⟨c1, ov, rfl, hc1, ht1, b1⟩
 have X6 := (b1.block (w.heap.size + 1 + 1 + 1) (by simp <;> omega)).trans (heap_at_new (o := (.cells Cnf.zero.cs.toArray 41)) (by simp))
 have W1 := Kept.mk (HB.out.trans (b1.mono HB.out.size))
 have S1 : w.heap.size + 4 ≤ w1.heap.size := by have := b1.size; simp at this; omega
 have RA := Kept.mk (CfAll.of hc1 ht1)
 obtain ⟨⟨a0, a1, a2, a3, ⟨eA, eN, eC⟩, ⟨fA, fN, fC⟩, a4⟩, ⟨gA, gN, gC⟩, ⟨hA, hN, hC⟩, a5⟩ := c1
 have HC1 := Kept.mk hc1
 have K6 := Kept.mk X6
 have Y6 := fun j => cell_of_row w1 (w.heap.size + 1 + 1 + 1) j _ _ _ X6
 have F6 := fun j => frozen_of_row w1 (w.heap.size + 1 + 1 + 1) j _ _ X6
 have Y6a := fun ob j => cell_of_row (w1.alloc ob) (w.heap.size + 1 + 1 + 1) j _ _ _ (heap_keep X6 (below_alloc_self w1 ob))
 have F6a := fun ob j => frozen_of_row (w1.alloc ob) (w.heap.size + 1 + 1 + 1) j _ _ (heap_keep X6 (below_alloc_self w1 ob))
 simp only [Cnf.cs, Cnf.zero, Sl.none] at Y6 Y6a
 have hn6 : w.heap.size + 1 + 1 + 1 ≠ w1.heap.size := by omega
 clear X6 b1 hc1 ht1
 go_wp2_with fail
 have hbW : Below w1.heap.size w1 w1 := Below.refl _ _
 have x6 := heap_keep K6.out hbW
 have ra := (RA.out.past hbW).row ⟨⟨_, x6⟩, grown10 _ (w.heap.size + 1 + 1 + 1) ⟨⟨a0, a1, a2, a3, ⟨eA, eN, eC⟩, ⟨fA, fN, fC⟩, a4⟩, ⟨gA, gN, gC⟩, ⟨hA, hN, hC⟩, a5⟩⟩ (by decide) (by decide)
 have wb := below10 (g := w.heap.size + 1 + 1 + 1) ⟨⟨a0, a1, a2, a3, ⟨eA, eN, eC⟩, ⟨fA, fN, fC⟩, a4⟩, ⟨gA, gN, gC⟩, ⟨hA, hN, hC⟩, a5⟩ (W1.out.trans (hbW.mono W1.out.size)) (by omega)
 have x4 := cnf_set2 Cnf.zero ⟨⟨a0, a1, a2, a3, ⟨eA, eN, eC⟩, ⟨fA, fN, fC⟩, a4⟩, ⟨gA, gN, gC⟩, ⟨hA, hN, hC⟩, a5⟩ x6
 dsimp only at ra wb x4
 refine at_ret _ [Cnf.v ⟨⟨a0, a1, a2, a3, ⟨eA, eN, eC⟩, ⟨fA, fN, fC⟩, a4⟩, ⟨gA, gN, gC⟩, ⟨hA, hN, hC⟩, a5⟩, ov, .bool true] Try.results38 (.cons (.cell (cs := Cnf.cs ⟨⟨a0, a1, a2, a3, ⟨eA, eN, eC⟩, ⟨fA, fN, fC⟩, a4⟩, ⟨gA, gN, gC⟩, ⟨hA, hN, hC⟩, a5⟩) (b := w.heap.size + 1 + 1 + 1) (off := 0) rfl rfl (cells_of_block x4) Try.underlying41 rfl (by kernel_rfl)) (.cons (.tmp rfl) (.cons (.tmp rfl) .nil))) rfl ?_
 exact ⟨⟨⟨a0, a1, a2, a3, ⟨eA, eN, eC⟩, ⟨fA, fN, fC⟩, a4⟩, ⟨gA, gN, gC⟩, ⟨hA, hN, hC⟩, a5⟩, ov, rfl, ra.cf HC1.out, ra.ty, wb⟩
set_option maxRecDepth 100000 in
set_option maxHeartbeats 8000000 in
theorem say_addr (p : Prg) (il : List Inst) (c : Cnf) (m : Conf) (k : Nat) (hk : k < m.buf.length) (w : World) (hp : PIs w p il) (hc : CfIs w c m) (hty : CfTy w c) (hW : p.W = 1 ∨ p.W = 2) (hln : m.buf.length ≤ 1000) (hml : m.st.mem.length ≤ 1000) (hsl : m.st.stack.length ≤ 1000) (hcan : canAddrOf p.W il m k = true) :
  Calls Try.prog 38 #[p.v, c.v, .agg #[.int .i64 3, .int .i64 (k : Int)]] w (SayPost ({ m with st := { m.st with pc := (addrOut p.W il m k m.buf[k] (instAt il m.buf[k].pc)).2 }, buf := (addrOut p.W il m k m.buf[k] (instAt il m.buf[k].pc)).1 } : Conf) w) := by
 have HP := Kept.mk hp
 have HC := Kept.mk hc
 have HTY := Kept.mk hty
 have HQ := Kept.mk (fun w1 (h1 : PIs w1 p il) (h2 : CfIs w1 c m) (h3 : CfTy w1 c) => (addr_at p il c m k hk w1 h1 hW h2 hln hml hsl hcan).mono (fun en w' h => h.say h2 h3))
 clear hp hW hln hml hsl hcan
 generalize ({ m with st := { m.st with pc := (addrOut p.W il m k m.buf[k] (instAt il m.buf[k].pc)).2 }, buf := (addrOut p.W il m k m.buf[k] (instAt il m.buf[k].pc)).1 } : Conf) = RR at *
 obtain ⟨⟨r0, r1, r2, r3, ⟨mA, mN, mC⟩, ⟨sA, sN, sC⟩, pc⟩, ⟨bA, bN, bC⟩, ⟨qA, qN, qC⟩, fin⟩ := c
 clear hc hty
 go_enter Try.func38, Try.ntmps38
 go_wp2_with fail
 have HB := Kept.mk ((((below_alloc_self w (.cells p.cs.toArray 33)).alloc (by simp) (.cells (Cnf.cs ⟨⟨r0, r1, r2, r3, ⟨mA, mN, mC⟩, ⟨sA, sN, sC⟩, pc⟩, ⟨bA, bN, bC⟩, ⟨qA, qN, qC⟩, fin⟩).toArray 41)).alloc (by simp; omega) (.cells #[.int .i64 3, .int .i64 (k : Int)] 71)).alloc (by simp; omega) (.cells Cnf.zero.cs.toArray 41))
 refine (HQ.out _ (HP.out.past HB.out) (HC.out.past HB.out) (HTY.out.past HB.out)).mono ?_
 rintro en w1 ⟨c1, ov, rfl, hc1, ht1, b1⟩
 have X6 := (b1.block (w.heap.size + 1 + 1 + 1) (by simp <;> omega)).trans (heap_at_new (o := (.cells Cnf.zero.cs.toArray 41)) (by simp))
 have W1 := Kept.mk (HB.out.trans (b1.mono HB.out.size))
 have S1 : w.heap.size + 4 ≤ w1.heap.size := by have := b1.size; simp at this; omega
 have RA := Kept.mk (CfAll.of hc1 ht1)
 obtain ⟨⟨a0, a1, a2, a3, ⟨eA, eN, eC⟩, ⟨fA, fN, fC⟩, a4⟩, ⟨gA, gN, gC⟩, ⟨hA, hN, hC⟩, a5⟩ := c1
 have HC1 := Kept.mk hc1
 have K6 := Kept.mk X6
 have Y6 := fun j => cell_of_row w1 (w.heap.size + 1 + 1 + 1) j _ _ _ X6
 have F6 := fun j => frozen_of_row w1 (w.heap.size + 1 + 1 + 1) j _ _ X6
 have Y6a := fun ob j => cell_of_row (w1.alloc ob) (w.heap.size + 1 + 1 + 1) j _ _ _ (heap_keep X6 (below_alloc_self w1 ob))
 have F6a := fun ob j => frozen_of_row (w1.alloc ob) (w.heap.size + 1 + 1 + 1) j _ _ (heap_keep X6 (below_alloc_self w1 ob))
 simp only [Cnf.cs, Cnf.zero, Sl.none] at Y6 Y6a
 have hn6 : w.heap.size + 1 + 1 + 1 ≠ w1.heap.size := by omega
 clear X6 b1 hc1 ht1
 go_wp2_with fail
 have hbW : Below w1.heap.size w1 w1 := Below.refl _ _
 have x6 := heap_keep K6.out hbW
 have ra := (RA.out.past hbW).row ⟨⟨_, x6⟩, grown10 _ (w.heap.size + 1 + 1 + 1) ⟨⟨a0, a1, a2, a3, ⟨eA, eN, eC⟩, ⟨fA, fN, fC⟩, a4⟩, ⟨gA, gN, gC⟩, ⟨hA, hN, hC⟩, a5⟩⟩ (by decide) (by decide)
 have wb := below10 (g := w.heap.size + 1 + 1 + 1) ⟨⟨a0, a1, a2, a3, ⟨eA, eN, eC⟩, ⟨fA, fN, fC⟩, a4⟩, ⟨gA, gN, gC⟩, ⟨hA, hN, hC⟩, a5⟩ (W1.out.trans (hbW.mono W1.out.size)) (by omega)
 have x4 := cnf_set2 Cnf.zero ⟨⟨a0, a1, a2, a3, ⟨eA, eN, eC⟩, ⟨fA, fN, fC⟩, a4⟩, ⟨gA, gN, gC⟩, ⟨hA, hN, hC⟩, a5⟩ x6
 dsimp only at ra wb x4
 refine at_ret _ [Cnf.v ⟨⟨a0, a1, a2, a3, ⟨eA, eN, eC⟩, ⟨fA, fN, fC⟩, a4⟩, ⟨gA, gN, gC⟩, ⟨hA, hN, hC⟩, a5⟩, ov, .bool true] Try.results38 (.cons (.cell (cs := Cnf.cs ⟨⟨a0, a1, a2, a3, ⟨eA, eN, eC⟩, ⟨fA, fN, fC⟩, a4⟩, ⟨gA, gN, gC⟩, ⟨hA, hN, hC⟩, a5⟩) (b := w.heap.size + 1 + 1 + 1) (off := 0) rfl rfl (cells_of_block x4) Try.underlying41 rfl (by kernel_rfl)) (.cons (.tmp rfl) (.cons (.tmp rfl) .nil))) rfl ?_
 exact ⟨⟨⟨a0, a1, a2, a3, ⟨eA, eN, eC⟩, ⟨fA, fN, fC⟩, a4⟩, ⟨gA, gN, gC⟩, ⟨hA, hN, hC⟩, a5⟩, ov, rfl, ra.cf HC1.out, ra.ty, wb⟩
set_option maxRecDepth 100000 in
set_option maxHeartbeats 8000000 in
theorem say_ret (p : Prg) (il : List Inst) (c : Cnf) (m : Conf)  (w : World) (hp : PIs w p il) (hc : CfIs w c m) (hty : CfTy w c) (hln : m.buf.length ≤ 1000) (hml : m.st.mem.length ≤ 1000) (hsl : m.st.stack.length ≤ 1000) (hsm : Small m.buf) (hfit : retFit il m) (hcan : canRetOf il m = true) :
  Calls Try.prog 38 #[p.v, c.v, .agg #[.int .i64 4, .int .i64 0]] w (SayPost (retireOf il m) w) := by
 have HP := Kept.mk hp
 have HC := Kept.mk hc
 have HTY := Kept.mk hty
 have HQ := Kept.mk (fun w1 (h1 : PIs w1 p il) (h2 : CfIs w1 c m) (h3 : CfTy w1 c) => retire_at p il c m w1 h1 h2 h3 hln hml hsl hsm hfit hcan)
 clear hp hln hml hsl hsm hfit hcan
 generalize (retireOf il m) = RR at *
 obtain ⟨⟨r0, r1, r2, r3, ⟨mA, mN, mC⟩, ⟨sA, sN, sC⟩, pc⟩, ⟨bA, bN, bC⟩, ⟨qA, qN, qC⟩, fin⟩ := c
 clear hc hty
 go_enter Try.func38, Try.ntmps38
 go_wp2_with fail
 have HB := Kept.mk ((((below_alloc_self w (.cells p.cs.toArray 33)).alloc (by simp) (.cells (Cnf.cs ⟨⟨r0, r1, r2, r3, ⟨mA, mN, mC⟩, ⟨sA, sN, sC⟩, pc⟩, ⟨bA, bN, bC⟩, ⟨qA, qN, qC⟩, fin⟩).toArray 41)).alloc (by simp; omega) (.cells #[.int .i64 4, .int .i64 0] 71)).alloc (by simp; omega) (.cells Cnf.zero.cs.toArray 41))
 refine (HQ.out _ (HP.out.past HB.out) (HC.out.past HB.out) (HTY.out.past HB.out)).mono ?_
 rintro en w1 ⟨c1, rfl, hc1, ht1, b1⟩
 have X6 := (b1.block (w.heap.size + 1 + 1 + 1) (by simp <;> omega)).trans (heap_at_new (o := (.cells Cnf.zero.cs.toArray 41)) (by simp))
 have W1 := Kept.mk (HB.out.trans (b1.mono HB.out.size))
 have S1 : w.heap.size + 4 ≤ w1.heap.size := by have := b1.size; simp at this; omega
 have RA := Kept.mk (CfAll.of hc1 ht1)
 obtain ⟨⟨a0, a1, a2, a3, ⟨eA, eN, eC⟩, ⟨fA, fN, fC⟩, a4⟩, ⟨gA, gN, gC⟩, ⟨hA, hN, hC⟩, a5⟩ := c1
 have HC1 := Kept.mk hc1
 have K6 := Kept.mk X6
 have Y6 := fun j => cell_of_row w1 (w.heap.size + 1 + 1 + 1) j _ _ _ X6
 have F6 := fun j => frozen_of_row w1 (w.heap.size + 1 + 1 + 1) j _ _ X6
 have Y6a := fun ob j => cell_of_row (w1.alloc ob) (w.heap.size + 1 + 1 + 1) j _ _ _ (heap_keep X6 (below_alloc_self w1 ob))
 have F6a := fun ob j => frozen_of_row (w1.alloc ob) (w.heap.size + 1 + 1 + 1) j _ _ (heap_keep X6 (below_alloc_self w1 ob))
 simp only [Cnf.cs, Cnf.zero, Sl.none] at Y6 Y6a
 have hn6 : w.heap.size + 1 + 1 + 1 ≠ w1.heap.size := by omega
 clear X6 b1 hc1 ht1
 go_wp2_with fail
 have hbW : Below w1.heap.size w1 (w1.alloc (.cells (Cnf.cs ⟨⟨a0, a1, a2, a3, ⟨eA, eN, eC⟩, ⟨fA, fN, fC⟩, a4⟩, ⟨gA, gN, gC⟩, ⟨hA, hN, hC⟩, a5⟩).toArray 41)) := below_alloc_self _ _
 have x6 := heap_keep K6.out hbW
 have ra := (RA.out.past hbW).row ⟨⟨_, x6⟩, grown10 _ (w.heap.size + 1 + 1 + 1) ⟨⟨a0, a1, a2, a3, ⟨eA, eN, eC⟩, ⟨fA, fN, fC⟩, a4⟩, ⟨gA, gN, gC⟩, ⟨hA, hN, hC⟩, a5⟩⟩ (by decide) (by decide)
 have wb := below10 (g := w.heap.size + 1 + 1 + 1) ⟨⟨a0, a1, a2, a3, ⟨eA, eN, eC⟩, ⟨fA, fN, fC⟩, a4⟩, ⟨gA, gN, gC⟩, ⟨hA, hN, hC⟩, a5⟩ (W1.out.trans (hbW.mono W1.out.size)) (by omega)
 have x4 := cnf_set2 Cnf.zero ⟨⟨a0, a1, a2, a3, ⟨eA, eN, eC⟩, ⟨fA, fN, fC⟩, a4⟩, ⟨gA, gN, gC⟩, ⟨hA, hN, hC⟩, a5⟩ x6
 dsimp only at ra wb x4
 refine at_ret _ [Cnf.v ⟨⟨a0, a1, a2, a3, ⟨eA, eN, eC⟩, ⟨fA, fN, fC⟩, a4⟩, ⟨gA, gN, gC⟩, ⟨hA, hN, hC⟩, a5⟩, .slice none 0 0, .bool true] Try.results38 (.cons (.cell (cs := Cnf.cs ⟨⟨a0, a1, a2, a3, ⟨eA, eN, eC⟩, ⟨fA, fN, fC⟩, a4⟩, ⟨gA, gN, gC⟩, ⟨hA, hN, hC⟩, a5⟩) (b := w.heap.size + 1 + 1 + 1) (off := 0) rfl rfl (cells_of_block x4) Try.underlying41 rfl (by kernel_rfl)) (.cons (.tmp rfl) (.cons (.tmp rfl) .nil))) rfl ?_
 exact ⟨⟨⟨a0, a1, a2, a3, ⟨eA, eN, eC⟩, ⟨fA, fN, fC⟩, a4⟩, ⟨gA, gN, gC⟩, ⟨hA, hN, hC⟩, a5⟩, .slice none 0 0, rfl, ra.cf HC1.out, ra.ty, wb⟩
end Go.Proofs.Ytchldbkjapnlcaa
end
section
namespace Go.Proofs.Ytchldbkjapnlcaa
open Go.RowKit

/-! ### Rows of directives -/
structure Dir where
 kind : Int
 n : Int
 deriving DecidableEq, Inhabited
def Dir.cs (e : Dir) : List Value := [.int .i64 e.kind, .int .i64 e.n]
@[go_sem] def Dir.v (e : Dir) : Value := .agg #[.int .i64 e.kind, .int .i64 e.n]
def dirCs (l : List Dir) : List Value := l.flatMap Dir.cs
theorem Dir.cs_length (e : Dir) : e.cs.length = 2 := rfl
theorem dirCs_append (l m : List Dir) : dirCs (l ++ m) = dirCs l ++ dirCs m := by simp [dirCs]
theorem dirCs_one (e : Dir) : dirCs [e] = e.cs := by simp [dirCs]
theorem dirCs_get (l : List Dir) (i : Nat) (h : i < l.length) (j : Nat) (hj : j < 2) : (dirCs l)[i * 2 + j]? = l[i].cs[j]? := by
 induction l generalizing i with
 | nil => simp at h
 | cons e l ih =>
  cases i with
  | zero =>
   rw [dirCs, List.flatMap_cons, List.getElem?_append_left (by rw [Dir.cs_length]; omega)]
   simp
  | succ i =>
   rw [dirCs, List.flatMap_cons, List.getElem?_append_right (by rw [Dir.cs_length]; omega), Dir.cs_length]
   have := ih i (by simpa using h)
   rw [show (i + 1) * 2 + j - 2 = i * 2 + j by omega]
   simpa [dirCs] using this
theorem dirCs_one_cell (l : List Dir) : ∀ u ∈ dirCs l, u.oneCell' = true := by
 intro u hu
 obtain ⟨e, _, he⟩ := List.mem_flatMap.1 hu
 simp only [Dir.cs, List.mem_cons, List.not_mem_nil, or_false] at he
 rcases he with rfl | rfl <;> rfl
theorem info_dir : (Try.prog.info? 71).map (fun i => (i.zero, i.size, i.bytes)) = some (some (.agg #[.int .i64 0, .int .i64 0]), 2, 16) := by kernel_rfl
def RdD (w : World) (A : Option Addr) (l : List Dir) : Prop := Reads w w.heap.size 2 A l.length (dirCs l)
theorem RdD.past {w w' : World} {A : Option Addr} {l : List Dir} (h : RdD w A l) (hb : Below w.heap.size w w') : RdD w' A l := Reads.past h hb
theorem RdD.at_ {w : World} {A : Option Addr} {l : List Dir} (h : RdD w A l) {i : Nat} (hi : i < l.length) :
  ∃ b o, A = some ⟨b, o, none⟩ ∧ b < w.heap.size ∧ CellsAt w b (o + i * 2) l[i].cs := by
 obtain ⟨b, o, e, hb, hc⟩ := Reads.cells h hi
 refine ⟨b, o, e, hb, fun j u hu => ?_⟩
 have hj : j < 2 := by have := (List.getElem?_eq_some_iff.1 hu).1; simpa [Dir.cs] using this
 rw [Nat.add_assoc]
 exact hc j u hj (by rw [dirCs_get l i hi j hj]; exact hu)
def OwnD (w : World) (B : Nat) (v : Value) (l : List Dir) : Prop := w.ownsRow B 71 2 v l.length (dirCs l)
theorem OwnD.nil {w : World} {B : Nat} : OwnD w B (.slice none 0 0) [] := World.ownsRow_nil _ _ _ _
theorem OwnD.past {w w' : World} {B : Nat} {v : Value} {l : List Dir} (h : OwnD w B v l) (hb : Below w.heap.size w w') : OwnD w' B v l := own_past h hb
theorem OwnD.lower {w : World} {B B' : Nat} {v : Value} {l : List Dir} (h : OwnD w B v l) (hb : B' ≤ B) : OwnD w B' v l := own_lower h hb
theorem OwnD.shape {w : World} {B : Nat} {v : Value} {l : List Dir} (h : OwnD w B v l) : ∃ A c, v = .slice A l.length c ∧ l.length ≤ c ∧ RdD w A l := own_shape h
def GivesD (w : World) (l : List Dir) (e : Ending) (w' : World) : Prop := ∃ v, e = .returned v ∧ OwnD w' w.heap.size v l ∧ Below w.heap.size w w'
theorem append_dir {ops : Array Oper} {rest : List Oper} {o : Oper} {a : Act} {Q : Exit → Act → World → Prop} (W : World) (hgd : o.guard = none) (s x : Operand)
  (ho : o.op = .call { callee := .builtin .append, args := #[s, x], argTypes := #[42, 42] }) (B : Nat) {v : Value} {l : List Dir} (hs : a.eval s = v) (hown : OwnD W B v l) (g : Nat) (e : Dir)
  (hx : a.eval x = .slice (some ⟨g, 0, none⟩) 1 1) (hg : W.heap[g]? = some (.cells e.cs.toArray 71 (0, 0))) (hl : l.length < 1000000) (hB : B ≤ W.heap.size)
  (h : ∀ v' w', OwnD w' B v' (l ++ [e]) → W.grownBy w' v.ownBlock → Below B W w' → wpList Try.prog ops Q rest (a.put o.dst v') w') : wpList Try.prog ops Q (o :: rest) a W := by
 obtain ⟨i0, hi0, hz0, hz1, hz2⟩ := info_parts info_dir
 refine wpList_append_any W hgd s x _ ho B 71 i0 _ 2 16 Try.underlying42 hi0 hz0 hz1 hz2 rfl (by omega) v l.length (dirCs l) hs hown W.heap.size (some ⟨g, 0, none⟩) 1 1 e.cs hx (reads_block hg rfl) (by rw [← dirCs_one]; exact dirCs_one_cell [e])
  (by simp only [maxLen]; omega) (by omega) hB fun v' w' h1 h2 _ => h v' w' ?_ h2 ((Below.refl _ _).grown h2 hB (fun k hk => (World.ownsRow.lt hown k hk).1))
 unfold OwnD
 rw [dirCs_append, dirCs_one, List.length_append]
 exact h1

/-- What may be said of one kind, to the first n. -/
def dirsTo (kind : Int) (f : Nat → Bool) : Nat → List Dir
 | 0 => []
 | k + 1 => if f k = true then dirsTo kind f k ++ [⟨kind, k⟩] else dirsTo kind f k
theorem dirsTo_len (kind : Int) (f : Nat → Bool) (n : Nat) : (dirsTo kind f n).length ≤ n := by
 induction n with
 | zero => simp [dirsTo]
 | succ n ih =>
  rw [dirsTo]
  split
  ·rw [List.length_append, List.length_cons, List.length_nil]
   omega
  ·omega
theorem dirsTo_mem (kind : Int) (f : Nat → Bool) (n : Nat) (d : Dir) : d ∈ dirsTo kind f n ↔ ∃ k, k < n ∧ f k = true ∧ d = ⟨kind, k⟩ := by
 induction n with
 | zero => simp [dirsTo]
 | succ n ih =>
  rw [dirsTo]
  constructor
  ·intro h
   split at h
   ·rcases List.mem_append.1 h with h | h
    ·obtain ⟨k, hk, hf, e⟩ := ih.1 h
     exact ⟨k, by omega, hf, e⟩
    ·exact ⟨n, by omega, by assumption, by simpa using h⟩
   ·obtain ⟨k, hk, hf, e⟩ := ih.1 h
    exact ⟨k, by omega, hf, e⟩
  ·rintro ⟨k, hk, hf, e⟩
   by_cases hkn : k = n
   ·subst hkn
    rw [if_pos hf]
    exact List.mem_append.2 (.inr (by simp [e]))
   ·have := ih.2 ⟨k, by omega, hf, e⟩
    split
    ·exact List.mem_append.2 (.inl this)
    ·exact this
def allOf (W win : Int) (il : List Inst) (m : Conf) : List Dir :=
 ((dirsTo 1 (fun _ => true) (guessesOf win il m).toNat ++ dirsTo 2 (fun k => canOf W il m k) m.buf.length) ++ dirsTo 3 (fun k => canAddrOf W il m k) m.buf.length) ++ (if canRetOf il m = true then [⟨4, 0⟩] else [])
theorem guesses_bounds (win : Int) (il : List Inst) (m : Conf) : 0 ≤ guessesOf win il m ∧ guessesOf win il m ≤ (il.length : Int) + 2 := by
 unfold guessesOf
 split
 ·omega
 ·split
  ·omega
  ·split <;> omega
set_option maxRecDepth 100000 in
set_option maxHeartbeats 8000000 in
theorem all_ref (p : Prg) (il : List Inst) (c : Cnf) (m : Conf) (w : World) (hp : PIs w p il) (hW : p.W = 1 ∨ p.W = 2) (hc : CfIs w c m) (hln : m.buf.length ≤ 1000) (hml : m.st.mem.length ≤ 1000) (hrl : m.rsb.length ≤ 1000) :
  Calls Try.prog 37 #[p.v, c.v] w (GivesD w (allOf p.W p.window il m)) := by
 have HP := Kept.mk hp
 have HC := Kept.mk hc
 have HG := Kept.mk (fun w1 (h1 : PIs w1 p il) (h2 : CfIs w1 c m) => guesses_ref p il c m w1 h1 h2 (by omega) (by omega))
 have HCan := Kept.mk (fun (k : Nat) w1 (h1 : PIs w1 p il) (h2 : CfIs w1 c m) => can_any p il c m (k : Int) w1 h1 hW h2 (by omega) (by omega))
 have HAd := Kept.mk (fun (k : Nat) w1 (h1 : PIs w1 p il) (h2 : CfIs w1 c m) => canAddr_any p il c m (k : Int) w1 h1 hW h2 (by omega))
 have HRt := Kept.mk (fun w1 (h1 : PIs w1 p il) (h2 : CfIs w1 c m) => canRet_any p il c m w1 h1 h2 (by omega))
 have hgb := guesses_bounds p.window il m
 have hil : il.length ≤ 1000 := by have := hp.n; have := hp.m; omega
 have hbn : c.buf.n = m.buf.length := hc.buf.n
 unfold allOf
 obtain ⟨fC, hfC⟩ : ∃ f : Nat → Bool, ∀ k : Nat, canOf p.W il m k = f k := ⟨fun k => canOf p.W il m k, fun _ => rfl⟩
 obtain ⟨fA, hfA⟩ : ∃ f : Nat → Bool, ∀ k : Nat, canAddrOf p.W il m k = f k := ⟨fun k => canAddrOf p.W il m k, fun _ => rfl⟩
 simp only [hfC] at HCan ⊢
 simp only [hfA] at HAd ⊢
 generalize canRetOf il m = cr at HRt ⊢
 generalize guessesOf p.window il m = G at HG hgb ⊢
 generalize m.buf.length = n at hbn hln ⊢
 clear hfC hfA hp hc hW
 obtain ⟨g, rfl⟩ := Int.eq_ofNat_of_zero_le hgb.1
 rw [Int.toNat_natCast]
 have hg : g ≤ 1002 := by omega
 clear hgb
 obtain ⟨⟨r0, r1, r2, r3, ⟨mA, mN, mC⟩, ⟨sA, sN, sC⟩, pc⟩, ⟨bA, bN, bC⟩, ⟨qA, qN, qC⟩, fin⟩ := c
 simp only at hbn
 subst hbn
 clear hil
 have HB := Kept.mk ((below_alloc_self w (.cells p.cs.toArray 33)).alloc (by simp) (.cells (Cnf.cs ⟨⟨r0, r1, r2, r3, ⟨mA, mN, mC⟩, ⟨sA, sN, sC⟩, pc⟩, ⟨bA, bN, bC⟩, ⟨qA, qN, qC⟩, fin⟩).toArray 41))
 have HBX : Kept (∀ wr, Below (w.heap.size + 2) ((w.alloc (.cells p.cs.toArray 33)).alloc (.cells (Cnf.cs ⟨⟨r0, r1, r2, r3, ⟨mA, mN, mC⟩, ⟨sA, sN, sC⟩, pc⟩, ⟨bA, bN, bC⟩, ⟨qA, qN, qC⟩, fin⟩).toArray 41)) wr →
   Below w.heap.size w wr ∧ wr.heap[w.heap.size]? = some (.cells p.cs.toArray 33 (0, 0)) ∧ wr.heap[w.heap.size + 1]? = some (.cells (Cnf.cs ⟨⟨r0, r1, r2, r3, ⟨mA, mN, mC⟩, ⟨sA, sN, sC⟩, pc⟩, ⟨bA, bN, bC⟩, ⟨qA, qN, qC⟩, fin⟩).toArray 41 (0, 0))) := ⟨fun wr hb =>
  ⟨HB.out.trans (hb.mono (by omega)), (hb.block _ (by omega)).trans ((heap_alloc_old _ _ (by simp)).trans (heap_alloc_new w _)), (hb.block _ (by omega)).trans (heap_alloc2_new w _ _)⟩⟩
 clear hml hrl
 generalize hD1 : dirsTo 1 (fun _ => true) g = D1
 have HD1 := Kept.mk hD1
 have HL1 : Kept (D1.length ≤ 1002) := ⟨by have := dirsTo_len 1 (fun _ => true) g; rw [hD1] at this; omega⟩
 clear hD1
 generalize hD2 : D1 ++ dirsTo 2 fC bN = D2
 have HD2 := Kept.mk hD2
 have HL2 : Kept (D2.length ≤ 2002) := ⟨by have := dirsTo_len 2 fC bN; have := HL1.out; rw [← hD2, List.length_append]; omega⟩
 clear hD2
 generalize hD3 : D2 ++ dirsTo 3 fA bN = D3
 have HD3 := Kept.mk hD3
 have HL3 : Kept (D3.length ≤ 3002) := ⟨by have := dirsTo_len 3 fA bN; have := HL2.out; rw [← hD3, List.length_append]; omega⟩
 clear hD3
 generalize hD4 : D3 ++ (if cr = true then [(⟨4, 0⟩ : Dir)] else []) = D4
 have HD4 := Kept.mk hD4
 clear hD4
 unfold Prg.v Cnf.v
 go_enter Try.func37, Try.ntmps37
 go_wp2_with fail
 go_loopw [5, 6] (fun v i' wr => ∃ k : Nat, k ≤ g ∧ i' = .int .i64 (k : Int) ∧ OwnD wr (w.heap.size + 2) v (dirsTo 1 (fun _ => true) k) ∧ Below (w.heap.size + 2) ((w.alloc (.cells p.cs.toArray 33)).alloc (.cells (Cnf.cs ⟨⟨r0, r1, r2, r3, ⟨mA, mN, mC⟩, ⟨sA, sN, sC⟩, pc⟩, ⟨bA, bN, bC⟩, ⟨qA, qN, qC⟩, fin⟩).toArray 41)) wr) (fun _ i' _ => g - (intOf i').toNat)
 case atStart => exact ⟨0, Nat.zero_le _, rfl, OwnD.nil, Below.refl _ _⟩
 case round =>
  obtain ⟨k, hk, rfl, ho, hb⟩ := hrel
  obtain ⟨hw, x0, x1⟩ := HBX.out wr hb
  have HO := Kept.mk ho
  have HBk := Kept.mk hb
  have HW := Kept.mk hw
  have Y0 := fun j => cell_of_row wr w.heap.size j _ _ _ x0
  have Y1 := fun j => cell_of_row wr (w.heap.size + 1) j _ _ _ x1
  simp only [Prg.cs, Cnf.cs] at Y0 Y1
  have hsz : w.heap.size + 2 ≤ wr.heap.size := by have := hb.size; simpa using this
  clear x0 x1 hw hb ho
  by_cases hlt : k < g
  ·have hki : (k : Int) < (g : Int) := by omega
   go_wp2_with fail
   refine (HG.out _ (HP.out.past HW.out) (HC.out.past HW.out)).mono ?_
   rintro en w5 ⟨rfl, b5⟩
   have B5 := Kept.mk (HBk.out.trans (b5.mono (by omega)))
   have O5 := Kept.mk (HO.out.past b5)
   have hS5 : wr.heap.size ≤ w5.heap.size := b5.size
   clear b5
   go_wp2_with (at_builtin; go_must (refine append_dir _ rfl (.tmp 16) (.tmp 19) rfl (w.heap.size + 2) rfl (O5.out.past (below_alloc_self _ _)) _ ⟨1, (k : Int)⟩ rfl (heap_at_new (by simp)) ?c1 ?c2 ?_))
   case c1 => have := dirsTo_len 1 (fun _ => true) k; omega
   case c2 => simp; omega
   intro v6 w6 h6 hg6 b6
   have O6 := Kept.mk h6
   have B6 := Kept.mk ((B5.out.alloc (by omega) (.cells #[.int .i64 1, .int .i64 (k : Int)] 71)).trans b6)
   clear h6 hg6 b6
   go_wp2_with fail
   exact ⟨⟨k + 1, by omega, by go_num, by rw [dirsTo, if_pos rfl]; exact O6.out, B6.out⟩, by simp [intOf] <;> omega⟩
  ·obtain rfl : g = k := by omega
   clear hlt hk
   go_wp2_with fail
   refine (HG.out _ (HP.out.past HW.out) (HC.out.past HW.out)).mono ?_
   rintro en w5 ⟨rfl, b5⟩
   have B5 := Kept.mk (HBk.out.trans (b5.mono (by omega)))
   have O5 := Kept.mk (HO.out.past b5)
   have hS5 : wr.heap.size ≤ w5.heap.size := b5.size
   clear b5
   have HO9 := Kept.mk (HD1.out ▸ O5.out)
   have HB9 := B5
   have HLD := HL1
   clear O5 B5 HO HBk HW Y0 Y1
   go_wp2_with fail
   go_loopw [5, 7] (fun v i' wr => ∃ j : Nat, j ≤ bN ∧ i' = .int .i64 (j : Int) ∧ OwnD wr (w.heap.size + 2) v (D1 ++ dirsTo 2 fC j) ∧ Below (w.heap.size + 2) ((w.alloc (.cells p.cs.toArray 33)).alloc (.cells (Cnf.cs ⟨⟨r0, r1, r2, r3, ⟨mA, mN, mC⟩, ⟨sA, sN, sC⟩, pc⟩, ⟨bA, bN, bC⟩, ⟨qA, qN, qC⟩, fin⟩).toArray 41)) wr) (fun _ i' _ => bN - (intOf i').toNat)
   case atStart => exact ⟨0, Nat.zero_le _, rfl, by rw [dirsTo, List.append_nil]; exact HO9.out, HB9.out⟩
   case round =>
    clear HO9 HB9
    obtain ⟨j, hj, rfl, ho, hb⟩ := hrel
    obtain ⟨hw, x0, x1⟩ := HBX.out wr hb
    have HO := Kept.mk ho
    have HBk := Kept.mk hb
    have HW := Kept.mk hw
    have Y0 := fun j => cell_of_row wr w.heap.size j _ _ _ x0
    have Y1 := fun j => cell_of_row wr (w.heap.size + 1) j _ _ _ x1
    simp only [Prg.cs, Cnf.cs] at Y0 Y1
    have hsz : w.heap.size + 2 ≤ wr.heap.size := by have := hb.size; simpa using this
    clear x0 x1 hw hb ho
    by_cases hlt : j < bN
    ·have hki : (j : Int) < (bN : Int) := by omega
     have HLJ := Kept.mk (dirsTo_len 2 fC j)
     go_wp2_with fail
     refine (HCan.out j _ (HP.out.past HW.out) (HC.out.past HW.out)).mono ?_
     rintro en w5 ⟨rfl, b5⟩
     have B5 := Kept.mk (HBk.out.trans (b5.mono (by omega)))
     have O5 := Kept.mk (HO.out.past b5)
     have hS5 : wr.heap.size ≤ w5.heap.size := b5.size
     clear b5
     cases hfj : fC j with
     | true =>
      have HF := Kept.mk (show D1 ++ dirsTo 2 fC (j + 1) = D1 ++ (dirsTo 2 fC j ++ [⟨2, j⟩]) by rw [dirsTo, if_pos hfj])
      clear hfj
      go_wp2_with (at_builtin; go_must (refine append_dir _ rfl (.tmp 32) (.tmp 35) rfl (w.heap.size + 2) rfl (O5.out.past (below_alloc_self _ _)) _ ⟨2, (j : Int)⟩ rfl (heap_at_new (by simp)) ?c1 ?c2 ?_))
      case c1 => have := HLJ.out; have := HLD.out; rw [List.length_append]; omega
      case c2 => simp; omega
      intro v6 w6 h6 hg6 b6
      have O6 := Kept.mk h6
      have B6 := Kept.mk ((B5.out.alloc (by omega) (.cells #[.int .i64 2, .int .i64 (j : Int)] 71)).trans b6)
      clear h6 hg6 b6
      go_wp2_with fail
      exact ⟨⟨j + 1, by omega, by go_num, by rw [HF.out]; exact O6.out, B6.out⟩, by simp [intOf] <;> omega⟩
     | false =>
      have HF := Kept.mk (show D1 ++ dirsTo 2 fC (j + 1) = (D1 ++ dirsTo 2 fC j) by rw [dirsTo, if_neg (by rw [hfj]; decide)])
      clear hfj
      go_wp2_with fail
      exact ⟨⟨j + 1, by omega, by go_num, by rw [HF.out]; exact O5.out, B5.out⟩, by simp [intOf] <;> omega⟩
    ·obtain rfl : bN = j := by omega
     clear hlt hj
     have HO9 := Kept.mk (HD2.out ▸ HO.out)
     have HB9 := HBk
     clear HLD
     have HLD := HL2
     clear HO HBk
     go_wp2_with fail
     clear Y0 Y1 HW
     go_loopw [5, 8] (fun v i' wr => ∃ j : Nat, j ≤ bN ∧ i' = .int .i64 (j : Int) ∧ OwnD wr (w.heap.size + 2) v (D2 ++ dirsTo 3 fA j) ∧ Below (w.heap.size + 2) ((w.alloc (.cells p.cs.toArray 33)).alloc (.cells (Cnf.cs ⟨⟨r0, r1, r2, r3, ⟨mA, mN, mC⟩, ⟨sA, sN, sC⟩, pc⟩, ⟨bA, bN, bC⟩, ⟨qA, qN, qC⟩, fin⟩).toArray 41)) wr) (fun _ i' _ => bN - (intOf i').toNat)
     case atStart => exact ⟨0, Nat.zero_le _, rfl, by rw [dirsTo, List.append_nil]; exact HO9.out, HB9.out⟩
     case round =>
      clear HO9 HB9
      obtain ⟨j, hj, rfl, ho, hb⟩ := hrel
      obtain ⟨hw, x0, x1⟩ := HBX.out wr hb
      have HO := Kept.mk ho
      have HBk := Kept.mk hb
      have HW := Kept.mk hw
      have Y0 := fun j => cell_of_row wr w.heap.size j _ _ _ x0
      have Y1 := fun j => cell_of_row wr (w.heap.size + 1) j _ _ _ x1
      simp only [Prg.cs, Cnf.cs] at Y0 Y1
      have hsz : w.heap.size + 2 ≤ wr.heap.size := by have := hb.size; simpa using this
      clear x0 x1 hw hb ho
      by_cases hlt : j < bN
      ·have hki : (j : Int) < (bN : Int) := by omega
       have HLJ := Kept.mk (dirsTo_len 3 fA j)
       go_wp2_with fail
       refine (HAd.out j _ (HP.out.past HW.out) (HC.out.past HW.out)).mono ?_
       rintro en w5 ⟨rfl, b5⟩
       have B5 := Kept.mk (HBk.out.trans (b5.mono (by omega)))
       have O5 := Kept.mk (HO.out.past b5)
       have hS5 : wr.heap.size ≤ w5.heap.size := b5.size
       clear b5
       cases hfj : fA j with
       | true =>
        have HF := Kept.mk (show D2 ++ dirsTo 3 fA (j + 1) = D2 ++ (dirsTo 3 fA j ++ [⟨3, j⟩]) by rw [dirsTo, if_pos hfj])
        clear hfj
        go_wp2_with (at_builtin; go_must (refine append_dir _ rfl (.tmp 48) (.tmp 51) rfl (w.heap.size + 2) rfl (O5.out.past (below_alloc_self _ _)) _ ⟨3, (j : Int)⟩ rfl (heap_at_new (by simp)) ?c1 ?c2 ?_))
        case c1 => have := HLJ.out; have := HLD.out; rw [List.length_append]; omega
        case c2 => simp; omega
        intro v6 w6 h6 hg6 b6
        have O6 := Kept.mk h6
        have B6 := Kept.mk ((B5.out.alloc (by omega) (.cells #[.int .i64 3, .int .i64 (j : Int)] 71)).trans b6)
        clear h6 hg6 b6
        go_wp2_with fail
        exact ⟨⟨j + 1, by omega, by go_num, by rw [HF.out]; exact O6.out, B6.out⟩, by simp [intOf] <;> omega⟩
       | false =>
        have HF := Kept.mk (show D2 ++ dirsTo 3 fA (j + 1) = (D2 ++ dirsTo 3 fA j) by rw [dirsTo, if_neg (by rw [hfj]; decide)])
        clear hfj
        go_wp2_with fail
        exact ⟨⟨j + 1, by omega, by go_num, by rw [HF.out]; exact O5.out, B5.out⟩, by simp [intOf] <;> omega⟩
      ·obtain rfl : bN = j := by omega
       clear hlt hj
       go_wp2_with fail
       refine (HRt.out _ (HP.out.past HW.out) (HC.out.past HW.out)).mono ?_
       rintro en w5 ⟨rfl, b5⟩
       have B5 := Kept.mk (HBk.out.trans (b5.mono (by omega)))
       have O5 := Kept.mk (HO.out.past b5)
       have hS5 : wr.heap.size ≤ w5.heap.size := b5.size
       clear b5
       have HO9 := Kept.mk (HD3.out ▸ O5.out)
       clear O5
       have O5 := HO9
       cases cr with
       | true =>
        go_wp2_with (at_builtin; go_must (refine append_dir _ rfl (.tmp 56) (.tmp 58) rfl (w.heap.size + 2) rfl (O5.out.past (below_alloc_self _ _)) _ ⟨4, 0⟩ rfl (heap_at_new (by simp)) ?c1 ?c2 ?_))
        case c1 => have := HL3.out; omega
        case c2 => simp; omega
        intro v6 w6 h6 hg6 b6
        have O6 := Kept.mk h6
        have B6 := Kept.mk ((B5.out.alloc (by omega) (.cells #[.int .i64 4, .int .i64 0] 71)).trans b6)
        clear h6 hg6 b6
        go_wp2_with fail
        go_ret
        refine ⟨_, rfl, ?_, HB.out.trans (B6.out.mono (by omega))⟩
        have := HD4.out
        rw [if_pos (by trivial)] at this
        rw [← this]
        exact O6.out.lower (by omega)
       | false =>
        go_wp2_with fail
        go_ret
        refine ⟨_, rfl, ?_, HB.out.trans (B5.out.mono (by omega))⟩
        have := HD4.out
        rw [if_neg (by simp), List.append_nil] at this
        rw [← this]
        exact O5.out.lower (by omega)
end Go.Proofs.Ytchldbkjapnlcaa
end
section
namespace Go.Proofs.Ytchldbkjapnlcaa
open Go.RowKit

noncomputable def regW (id : Nat) : Code := (Try.f25.body.bind (findRegion id)).getD .skip
theorem exec_rem {P : Program} {w : World} {o : Oper} {ev : Operand → Value} {t t' : TypeId} {x y : Operand} {a b : Int} (ho : o.op = .binOp .rem t x y t') (hx : ev x = .int .i64 a) (hy : ev y = .int .i64 b) (hb : b ≠ 0) :
  (execOp ev o).run P w = .ok (.value (.int .i64 (a.tmod b))) w := by
 unfold execOp
 simp [ho, hx, hy, Go.binOp_rem, Op.intDiv, hb, eqGuard_rem]
def SayV (m : Conf) (v : Value) (w : World) : Prop := ∃ (c : Cnf) (ov : Value), v = .tuple #[c.v, ov, .bool true] ∧ CfIs w c m ∧ CfTy w c
def CnfV (m : Conf) (v : Value) (w : World) : Prop := ∃ c : Cnf, v = c.v ∧ CfIs w c m ∧ CfTy w c
theorem SayV.grows {m : Conf} : Grows (SayV m) := fun _ _ _ ⟨c, ov, e, h1, h2⟩ hb => ⟨c, ov, e, h1.past hb, h2.past hb⟩
theorem CnfV.grows {m : Conf} : Grows (CnfV m) := fun _ _ _ ⟨c, e, h1, h2⟩ hb => ⟨c, e, h1.past hb, h2.past hb⟩
theorem SayV.step {m : Conf} {v : Value} {w w' : World} {n : Nat} (h : SayV m v w) (hs : BoxStep 41 n w w') : SayV m v w' := by
 obtain ⟨c, ov, e, h1, h2⟩ := h
 exact ⟨c, ov, e, h1.step h2 hs (by decide) (by decide), h2.step hs (by decide) (by decide)⟩
theorem CnfV.step {m : Conf} {v : Value} {w w' : World} {n : Nat} (h : CnfV m v w) (hs : BoxStep 41 n w w') : CnfV m v w' := by
 obtain ⟨c, e, h1, h2⟩ := h
 exact ⟨c, e, h1.step h2 hs (by decide) (by decide), h2.step hs (by decide) (by decide)⟩
set_option maxRecDepth 100000 in
set_option maxHeartbeats 8000000 in
theorem walk_say {z0 z1 z4 z5 z6 z7 z9 z12 z13 z14 z15 z16 z17 z18 z19 z20 z21 z22 z23 z24 z25 z26 z27 z28 z29 z30 z31 z32 z33 z34 z35 z36 z37 z38 z39 z40 z41 z42 z43 z44 z45 z46 z47 z48 z49 z50 z51 z52 z53 z54 z55 z56 z57 z58 z59 z60 z61 z62 z63 z64 z65 z66 z67 z68 z69 : Value} (w0 : World) (S3 S8 : Nat) (p : Prg) (il : List Inst) (c : Cnf) (m m1 : Conf) (l : List Int) (i k lB lO lC dB dO dC : Nat) (ds : List Dir) (M : Int) (hi : i < l.length) (hk : k < ds.length)
  (HP : Kept (PIs w0 p il)) (HC : Kept (CfIs w0 c m)) (HT : Kept (CfTy w0 c)) (HPX : Kept (∀ w1, Below w0.heap.size w0 w1 → CellsAt w1 S3 0 p.cs)) (HCX : Kept (∀ w1, Below w0.heap.size w0 w1 → CellsAt w1 S8 0 c.cs))
  (HLX : Kept (∀ w1, Below w0.heap.size w0 w1 → CellsAt w1 lB (lO + i) [.int .i64 l[i]])) (HDX : Kept (∀ w1, Below w0.heap.size w0 w1 → CellsAt w1 dB (dO + k * 2) ds[k].cs)) (HM : Kept (bits .and .i64 l[i] 65535 = M)) (HK : Kept (M.tmod (ds.length : Int) = (k : Int)))
  (HX : Kept (∀ w1, PIs w1 p il → CfIs w1 c m → CfTy w1 c → Calls Try.prog 38 #[p.v, c.v, ds[k].v] w1 (SayPost m1 w1))) (Q : Exit → Act → World → Prop)
  (hQ : ∀ (u13 u33 u34 u35 u36 u37 u38 u39 u40 u41 u42 u43 u44 u45 u46 u47 u48 u49 u50 : Value) (w' : World) (b : Nat) (c1 : Cnf), w0.heap.size ≤ b → w'.heap[b]? = some (.cells c1.cs.toArray 41 (0, 0)) → CfIs w' c1 m1 → CfTy w' c1 → Below w0.heap.size w0 w' → Q .normal ⟨#[z0, z1, .slice (some ⟨lB, lO, none⟩) l.length lC, .pointer (some ⟨S3, 0, none⟩), z4, z5, z6, z7, .pointer (some ⟨S8, 0, none⟩), z9, .int .i64 (i : Int), .slice (some ⟨dB, dO, none⟩) ds.length dC, .pointer (some ⟨b, 0, none⟩), u13, .bool true, z15, z16, z17, z18, z19, z20, z21, z22, z23, z24, z25, z26, z27, z28, z29, z30, z31, z32, u33, u34, u35, u36, u37, u38, u39, u40, u41, u42, u43, u44, u45, u46, u47, u48, u49, u50, z51, z52, z53, z54, z55, z56, z57, z58, z59, z60, z61, z62, z63, z64, z65, z66, z67, z68, z69], []⟩ w') :
  Code.wp Try.prog (regW 8) Q ⟨#[z0, z1, .slice (some ⟨lB, lO, none⟩) l.length lC, .pointer (some ⟨S3, 0, none⟩), z4, z5, z6, z7, .pointer (some ⟨S8, 0, none⟩), z9, .int .i64 (i : Int), .slice (some ⟨dB, dO, none⟩) ds.length dC, z12, z13, z14, z15, z16, z17, z18, z19, z20, z21, z22, z23, z24, z25, z26, z27, z28, z29, z30, z31, z32, z33, z34, z35, z36, z37, z38, z39, z40, z41, z42, z43, z44, z45, z46, z47, z48, z49, z50, z51, z52, z53, z54, z55, z56, z57, z58, z59, z60, z61, z62, z63, z64, z65, z66, z67, z68, z69], []⟩ w0 := by
 conv => arg 2; whnf
 refine region_tellz (fun done vals w => (done 19 = true → done 18 = true ∧ ∃ c1 : Cnf, BoxHas (w0.heap.size) 41 c1.cs (vals 18) w ∧ CfIs w c1 m1 ∧ CfTy w c1)) (w0.heap.size) (G := fun _ => True) (ts := [
   .is (p.v),
   .is (c.v),
   .is (Value.slice ((some ⟨dB, dO, none⟩)) ds.length dC),
   .is (Value.slice ((some ⟨lB, lO, none⟩)) l.length lC),
   .is (Value.int .i64 ((i : Int))),
   .is (Value.pointer (some ⟨lB, lO + i, none⟩)),
   .is (Value.int .i64 (l[i])),
   .is (Value.int .i64 (M)),
   .is (Value.slice ((some ⟨dB, dO, none⟩)) ds.length dC),
   .is (Value.int .i64 ((ds.length : Int))),
   .is (Value.int .i64 ((k : Int))),
   .is (Value.pointer (some ⟨dB, dO + k * 2, none⟩)),
   .is (ds[k].v),
   .makes (SayV m1),
   .gets (SayV m1),
   .gets (CnfV m1),
   .gets (fun _ _ => True),
   .is (.bool true),
   .makes (IsBox (w0.heap.size) 41 10),
   .sets (BoxStep 41 10),
   .gets (fun _ _ => True),
   .is (Value.bool true)])
  (fin := []) (cs := [(19, 13), (19, 14), (19, 15), (19, 16), (19, 20), (19, 18)]) ?z0 ?zg (by kernel_rfl) rfl (by kernel_rfl) (by kernel_rfl)
  ⟨trivial, trivial, trivial, trivial, trivial, trivial, trivial, trivial, trivial, trivial, trivial, trivial, trivial, SayV.grows, SayV.grows, CnfV.grows, (fun _ _ _ _ _ => trivial), trivial, IsBox.grows, (fun _ _ _ _ _ => trivial), (fun _ _ _ _ _ => trivial), trivial, trivial⟩ (fun _ _ _ _ => trivial) ?cs (by omega) trivial
  ⟨?_, ?_, ?_, ?_, ?_, ?_, ?_, ?_, ?_, ?_, ?_, ?_, ?_, ?_, ?_, ?_, ?_, ?_, ?_, ?_, ?_, ?_, trivial⟩ ?_
 case z0 =>
  show _
  exact fun h => by cases h
 case zg =>
  intro i done vals w1 w2 v hti hni hZ hb
  have hz := hZ
  ·skip
   intro h
   have h : (done 19 || 19 == i) = true := h
   have hst : 19 ≠ i := by rintro rfl; cases hti
   have h1 : done 19 = true := by rw [show (19 == i) = false by simpa using hst, Bool.or_false] at h; exact h
   obtain ⟨ha, c1, hbx, hc1, ht1⟩ := hz h1
   have hal : ¬ 18 = i := by rintro rfl; rw [ha] at hni; cases hni
   refine ⟨?_, c1, ?_, hc1.past hb, ht1.past hb⟩
   ·show (done 18 || 18 == i) = true
    rw [ha, Bool.true_or]
   ·show BoxHas _ _ _ (if 18 = i then v else vals 18) _
    rw [if_neg hal]
    exact BoxHas.grows _ _ _ hbx hb
 case cs =>
  intro p hp v w1 w2 hG hR hE
  simp only [List.mem_cons, List.not_mem_nil, or_false] at hp
  rcases hp with rfl | rfl | rfl | rfl | rfl | rfl
  ·exact SayV.step hR hE
  ·exact SayV.step hR hE
  ·exact CnfV.step hR hE
  ·exact trivial
  ·exact trivial
  ·exact IsBox.kept hR hE
 ·intro done vals w1 hB _ hZ hni hcl hdn hd
  clear hd
  refine one_value (v := p.v) rfl ?_ ⟨post_is rfl, noturn rfl⟩
  exact exec_load_row rfl (b := S3) (off := 0) (by kernel_rfl) p.cs (HPX.out w1 hB) Try.underlying33 rfl (by kernel_rfl)
 ·intro done vals w1 hB _ hZ hni hcl hdn hd
  clear hd
  refine one_value (v := c.v) rfl ?_ ⟨post_is rfl, noturn rfl⟩
  exact exec_load_row rfl (b := S8) (off := 0) (by kernel_rfl) c.cs (HCX.out w1 hB) Try.underlying41 rfl (by kernel_rfl)
 ·intro done vals w1 hB _ hZ hni hcl hdn hd
  clear hd
  refine one_value (v := Value.slice ((some ⟨dB, dO, none⟩)) ds.length dC) rfl ?_ ⟨post_is rfl, noturn rfl⟩
  kernel_rfl
 ·intro done vals w1 hB _ hZ hni hcl hdn hd
  clear hd
  refine one_value (v := Value.slice ((some ⟨lB, lO, none⟩)) l.length lC) rfl ?_ ⟨post_is rfl, noturn rfl⟩
  kernel_rfl
 ·intro done vals w1 hB _ hZ hni hcl hdn hd
  clear hd
  refine one_value (v := Value.int .i64 ((i : Int))) rfl ?_ ⟨post_is rfl, noturn rfl⟩
  kernel_rfl
 ·intro done vals w1 hB _ hZ hni hcl hdn hd
  clear hd
  refine one_value (v := Value.pointer (some ⟨lB, lO + i, none⟩)) rfl ?_ ⟨post_is rfl, noturn rfl⟩
  exact exec_index1 (k := i) (n := l.length) (c := lC) rfl (by kernel_rfl) (by kernel_rfl) Try.underlying22 (by kernel_rfl) (by omega)
 ·intro done vals w1 hB _ hZ hni hcl hdn hd
  clear hd
  refine one_value (v := Value.int .i64 (l[i])) rfl ?_ ⟨post_is rfl, noturn rfl⟩
  exact exec_cell rfl (by kernel_rfl) ((HLX.out w1 hB) 0 _ rfl) Try.underlying3 rfl
 ·intro done vals w1 hB _ hZ hni hcl hdn hd
  clear hd
  refine one_value (v := Value.int .i64 (M)) rfl ?_ ⟨post_is rfl, noturn rfl⟩
  exact Eq.trans (b := .ok (.value (.int .i64 (bits .and .i64 l[i] 65535))) w1) (by kernel_rfl) (by rw [HM.out])
 ·intro done vals w1 hB _ hZ hni hcl hdn hd
  clear hd
  refine one_value (v := Value.slice ((some ⟨dB, dO, none⟩)) ds.length dC) rfl ?_ ⟨post_is rfl, noturn rfl⟩
  kernel_rfl
 ·intro done vals w1 hB _ hZ hni hcl hdn hd
  clear hd
  refine one_value (v := Value.int .i64 ((ds.length : Int))) rfl ?_ ⟨post_is rfl, noturn rfl⟩
  kernel_rfl
 ·intro done vals w1 hB _ hZ hni hcl hdn hd
  clear hd
  refine one_value (v := Value.int .i64 ((k : Int))) rfl ?_ ⟨post_is rfl, noturn rfl⟩
  exact (exec_rem (a := M) (b := (ds.length : Int)) rfl (by kernel_rfl) (by kernel_rfl) (by omega)).trans (by rw [HK.out])
 ·intro done vals w1 hB _ hZ hni hcl hdn hd
  clear hd
  refine one_value (v := Value.pointer (some ⟨dB, dO + k * 2, none⟩)) rfl ?_ ⟨post_is rfl, noturn rfl⟩
  exact exec_index (k := k) (n := ds.length) (c := dC) rfl (by kernel_rfl) (by kernel_rfl) Try.underlying42 (by kernel_rfl) (by omega)
 ·intro done vals w1 hB _ hZ hni hcl hdn hd
  clear hd
  refine one_value (v := ds[k].v) rfl ?_ ⟨post_is rfl, noturn rfl⟩
  exact exec_load_row rfl (b := dB) (off := dO + k * 2) (by kernel_rfl) ds[k].cs (HDX.out w1 hB) Try.underlying71 rfl (by kernel_rfl)
 ·intro done vals w1 hB _ hZ hni hcl hdn hd
  clear hd
  refine one_calls (f := 38) (args := #[p.v, c.v, ds[k].v]) (w1 := w1) rfl (by kernel_rfl) ?_
  refine (HX.out w1 (HP.out.past hB) (HC.out.past hB) (HT.out.past hB)).mono ?_
  rintro e1 w2 ⟨c1, ov, rfl, h1, h2, h3⟩
  exact ⟨_, rfl, post_makes rfl ⟨c1, ov, rfl, h1, h2⟩ h3, noturn rfl⟩
 ·intro done vals w1 hB _ hZ hni hcl hdn hd
  have d13 : SayV m1 (vals 13) w1 := hd 13 (by kernel_rfl)
  clear hd
  exact one_value (v := vals 13) rfl (by kernel_rfl) ⟨post_gets rfl d13, noturn rfl⟩
 ·intro done vals w1 hB _ hZ hni hcl hdn hd
  have d14 : SayV m1 (vals 14) w1 := hd 14 (by kernel_rfl)
  clear hd
  obtain ⟨c1, ov, e14, h1, h2⟩ := d14
  refine one_value (v := c1.v) rfl ?_ ⟨post_gets rfl ⟨c1, rfl, h1, h2⟩, noturn rfl⟩
  rw [vals_at e14]
  kernel_rfl
 ·intro done vals w1 hB _ hZ hni hcl hdn hd
  have d14 : SayV m1 (vals 14) w1 := hd 14 (by kernel_rfl)
  clear hd
  obtain ⟨c1, ov, e14, h1, h2⟩ := d14
  refine one_value (v := ov) rfl ?_ ⟨post_gets rfl trivial, noturn rfl⟩
  rw [vals_at e14]
  kernel_rfl
 ·intro done vals w1 hB _ hZ hni hcl hdn hd
  have d14 : SayV m1 (vals 14) w1 := hd 14 (by kernel_rfl)
  clear hd
  obtain ⟨c1, ov, e14, h1, h2⟩ := d14
  refine one_value (v := .bool true) rfl ?_ ⟨post_is rfl, noturn rfl⟩
  rw [vals_at e14]
  kernel_rfl
 ·intro done vals w1 hB _ hZ hni hcl hdn hd
  clear hd
  refine one_makes (v := .pointer (some ⟨w1.heap.size, 0, none⟩)) (w' := w1.alloc (.cells #[Value.int .i64 (0), Value.int .i64 (0), Value.int .i64 (0), Value.int .i64 (0), Value.slice none 0 0, Value.slice none 0 0, Value.int .i64 (0), Value.slice none 0 0, Value.slice none 0 0, Value.int .i64 (0)] 41)) rfl (by kernel_rfl) ⟨post_makes rfl ⟨w1.heap.size, _, rfl, (by have := hB.size; omega), rfl, heap_alloc_new w1 _⟩ (below_alloc_self _ _), noturn rfl⟩
 ·intro done vals w1 hB _ hZ hni hcl hdn hd
  have d18 : IsBox (w0.heap.size) 41 10 (vals 18) w1 := hd 18 (by kernel_rfl)
  have d15 : CnfV m1 (vals 15) w1 := hd 15 (by kernel_rfl)
  clear hd
  obtain ⟨b0, cs0, e0, hb0, hn0, hh0⟩ := d18
  obtain ⟨c1, e1, h1, h2⟩ := d15
  obtain ⟨w2, hr2, hw2, hg2⟩ := run_store_box (P := Try.prog) (ty := 41) c1.v c1.cs rfl hh0 hn0 rfl (by kernel_rfl)
  have hs : BoxStep 41 10 w1 w2 := ⟨b0, _, ⟨cs0, hn0, hh0⟩, rfl, hw2, hg2⟩
  refine one_skips (w' := w2) rfl ?_ ⟨post_sets rfl (hB.grown hg2 (by have := hB.size; omega) (fun k hk => by injection hk with hk; omega)) trivial hg2.size hs, fun _ => fun _ => ⟨?_, c1, ?_, h1.step h2 hs (by decide) (by decide), h2.step hs (by decide) (by decide)⟩⟩
  ·rw [vals_at e0, vals_at e1]
   exact exec_store rfl (by kernel_rfl) (by kernel_rfl) hr2
  ·show (done 18 || 18 == 19) = true
   rw [hdn 18 (by kernel_rfl), Bool.true_or]
  ·exact ⟨b0, e0, hb0, hw2⟩
 ·intro done vals w1 hB _ hZ hni hcl hdn hd
  clear hd
  exact one_value (v := vals 16) rfl (by kernel_rfl) ⟨post_gets rfl trivial, noturn rfl⟩
 ·intro done vals w1 hB _ hZ hni hcl hdn hd
  clear hd
  refine one_value (v := Value.bool true) rfl ?_ ⟨post_is rfl, noturn rfl⟩
  kernel_rfl
 intro done vals w9 b9 _ hall hZ hr
 obtain ⟨-, c1, ⟨b, ebx, hbx, hbb⟩, hc1, ht1⟩ := hZ (hall 19 (by simp))
 clear hr
 simp only [fillT, Tell.is, Tell.makes, Tell.gets, Act.put, List.setIfInBounds_toArray, List.set_cons_zero, List.set_cons_succ]
 rw [ebx]
 exact hQ _ _ _ _ _ _ _ _ _ _ _ _ _ _ _ _ _ _ _ w9 b c1 hbx hbb hc1 ht1 b9
end Go.Proofs.Ytchldbkjapnlcaa
end
section
namespace Go.Proofs.Ytchldbkjapnlcaa
open Go.RowKit

set_option maxRecDepth 100000 in
set_option maxHeartbeats 2000000 in
theorem begin_ref (s : Stt) (w : World) : Calls Try.prog 36 #[s.v] w fun en w' => en = .returned (Cnf.v ⟨s, Sl.none, Sl.none, 0⟩) ∧ Below w.heap.size w w' := by
 obtain ⟨r0, r1, r2, r3, ⟨mA, mN, mC⟩, ⟨sA, sN, sC⟩, pc⟩ := s
 go_enter Try.func36, Try.ntmps36
 go_wp2_with fail
 refine at_ret _ [Cnf.v ⟨⟨r0, r1, r2, r3, ⟨mA, mN, mC⟩, ⟨sA, sN, sC⟩, pc⟩, Sl.none, Sl.none, 0⟩] Try.results36 (.cons (.cell (cs := Cnf.cs ⟨⟨r0, r1, r2, r3, ⟨mA, mN, mC⟩, ⟨sA, sN, sC⟩, pc⟩, Sl.none, Sl.none, 0⟩) (b := w.heap.size + 1) (off := 0) rfl rfl (cells_of_block (heap_at_new (by simp))) Try.underlying41 rfl (by kernel_rfl)) .nil) rfl ⟨rfl, ?_⟩
 exact (below_alloc_self w _).alloc (by simp) _
theorem CellsAt.one {w : World} {b off : Nat} {v : Value} (h : w.cell? ⟨b, off, none⟩ = some v) : CellsAt w b off [v] := fun j u hu => by
 match j, hu with
 | 0, hu => cases hu; exact h
 | n + 1, hu => simp at hu
theorem CfAll.grownD {w w' : World} {a b c d : Sl} {la lb lc : List Int} {ld : List Ent} {B : Nat} {v : Value} {l : List Dir} (h : CfAll w a b c d la lb lc ld) (ho : OwnD w B v l) (hg : w.grownBy w' v.ownBlock) : CfAll w' a b c d la lb lc ld := by
 rcases ho.2 with ⟨hv, _⟩ | ⟨g, cap, cur, hv, _, hh, _⟩
 ·rw [hv] at hg
  exact h.past ⟨hg.os, hg.tape, hg.output, hg.size, fun i hi => hg.block i hi (by intro e; cases e)⟩
 ·rw [hv] at hg
  exact h.row ⟨⟨_, hh⟩, hg⟩ (by decide) (by decide)
/-! ### One step -/
def doConf (W : Int) (il : List Inst) (m : Conf) (k : Nat) : Conf :=
 { m with st := { m.st with pc := (doOut W il m k { ((m.buf[k]?).getD default) with done := true } (instAt il ((m.buf[k]?).getD default).pc)).2 }, buf := (doOut W il m k { ((m.buf[k]?).getD default) with done := true } (instAt il ((m.buf[k]?).getD default).pc)).1 }
def addrConf (W : Int) (il : List Inst) (m : Conf) (k : Nat) : Conf :=
 { m with st := { m.st with pc := (addrOut W il m k ((m.buf[k]?).getD default) (instAt il ((m.buf[k]?).getD default).pc)).2 }, buf := (addrOut W il m k ((m.buf[k]?).getD default) (instAt il ((m.buf[k]?).getD default).pc)).1 }
def stepOf (W : Int) (il : List Inst) (m : Conf) (d : Dir) : Conf := if d.kind = 1 then fetchOf il m d.n else if d.kind = 2 then doConf W il m d.n.toNat else if d.kind = 3 then addrConf W il m d.n.toNat else retireOf il m
/-- What a machine must be for the steps' contracts. -/
structure Fit (il : List Inst) (m : Conf) : Prop where
 bl : m.buf.length ≤ 1000
 ml : m.st.mem.length ≤ 1000
 sl : m.st.stack.length ≤ 1000
 rl : m.rsb.length ≤ 1000
 pc : -2 ≤ m.st.pc ∧ m.st.pc ≤ 1000000
 sm : Small m.buf
 rt : canRetOf il m = true → retFit il m
theorem say_any (p : Prg) (il : List Inst) (c : Cnf) (m : Conf) (d : Dir) (w : World) (hp : PIs w p il) (hc : CfIs w c m) (hty : CfTy w c) (hW : p.W = 1 ∨ p.W = 2) (hop : ∀ y ∈ il, (y.kind = 1 ∨ y.kind = 5) → 1 ≤ y.op ∧ y.op ≤ 10) (hf : Fit il m) (hd : d ∈ allOf p.W p.window il m) :
  Calls Try.prog 38 #[p.v, c.v, d.v] w (SayPost (stepOf p.W il m d) w) := by
 unfold allOf at hd
 rw [List.mem_append, List.mem_append, List.mem_append, dirsTo_mem, dirsTo_mem, dirsTo_mem] at hd
 unfold stepOf
 rcases hd with ((⟨k, hk, _, rfl⟩ | ⟨k, hk, h, rfl⟩) | ⟨k, hk, h, rfl⟩) | h
 ·simp only [if_true]
  exact say_fetch p il c m k w hp hc hty hf.bl hf.sl hf.rl hf.pc (by omega) (by have := (guesses_bounds p.window il m).1; omega)
 ·have := say_do p il c m k hk w hp hc hty hW hop hf.bl hf.ml hf.sl h
  simpa [doConf, Dir.v, List.getElem?_eq_getElem hk] using this
 ·have := say_addr p il c m k hk w hp hc hty hW hf.bl hf.ml hf.sl h
  simpa [addrConf, Dir.v, List.getElem?_eq_getElem hk] using this
 ·split at h
  ·rename_i hr
   rw [List.mem_singleton] at h
   subst h
   have := say_ret p il c m w hp hc hty hf.bl hf.ml hf.sl hf.sm (hf.rt hr) hr
   simpa [Dir.v] using this
  ·cases h
/-! ### Walks -/
def pickIx (x : Int) (n : Nat) : Nat := (x % 65536).toNat % n
def walkOf (W win : Int) (il : List Inst) : List Int → Conf → Conf × List Dir
 | [], m => (m, [])
 | x :: t, m => if (allOf W win il m).length = 0 then (m, []) else
  ((walkOf W win il t (stepOf W il m (((allOf W win il m)[pickIx x (allOf W win il m).length]?).getD default))).1, (((allOf W win il m)[pickIx x (allOf W win il m).length]?).getD default) :: (walkOf W win il t (stepOf W il m (((allOf W win il m)[pickIx x (allOf W win il m).length]?).getD default))).2)
/-- What each step keeps. -/
structure Keeps (W win : Int) (il : List Inst) (I : Nat → Conf → Prop) : Prop where
 fit : ∀ k m, k ≤ 100 → I k m → Fit il m
 step : ∀ k m d, I k m → d ∈ allOf W win il m → I (k + 1) (stepOf W il m d)
theorem pick_mem (l : List Dir) (x : Int) (h : l.length ≠ 0) : ∃ hk : pickIx x l.length < l.length, (l[pickIx x l.length]?).getD default = l[pickIx x l.length] ∧ l[pickIx x l.length] ∈ l := by
 have hk : pickIx x l.length < l.length := Nat.mod_lt _ (by omega)
 exact ⟨hk, by rw [List.getElem?_eq_getElem hk]; rfl, List.getElem_mem _⟩
theorem walk_keeps {W win : Int} {il : List Inst} {I : Nat → Conf → Prop} (hI : Keeps W win il I) : ∀ (t : List Int) (k : Nat) (m : Conf), I k m → ∃ j, j ≤ k + t.length ∧ I j (walkOf W win il t m).1
 | [], k, m, h => ⟨k, by simp, by rw [walkOf]; exact h⟩
 | x :: t, k, m, h => by
  rw [walkOf]
  split
  ·exact ⟨k, by omega, h⟩
  ·rename_i hn
   obtain ⟨hk, e, hm⟩ := pick_mem _ x hn
   rw [e]
   obtain ⟨j, hj, h'⟩ := walk_keeps hI t (k + 1) _ (hI.step k m _ h hm)
   exact ⟨j, by simp only [List.length_cons]; omega, h'⟩
def WalkPost (r : Conf × List Dir) (w : World) (en : Ending) (w' : World) : Prop := ∃ (c : Cnf) (dv : Value), en = .returned (.tuple #[c.v, dv]) ∧ CfIs w' c r.1 ∧ CfTy w' c ∧ OwnD w' w.heap.size dv r.2 ∧ Below w.heap.size w w'
theorem pick_num (x : Int) (n : Nat) (hn : n ≠ 0) : (x % 65536).tmod (n : Int) = (pickIx x n : Int) := by
 unfold pickIx
 have h0 : 0 ≤ x % 65536 := by omega
 obtain ⟨a, ha⟩ := Int.eq_ofNat_of_zero_le h0
 rw [ha, Int.toNat_natCast, Int.tmod_eq_emod_of_nonneg (by omega)]
 rfl
set_option maxRecDepth 100000 in
set_option maxHeartbeats 8000000 in
theorem walk_ref (p : Prg) (il : List Inst) (s : Stt) (ms : State) (AL : Option Addr) (l : List Int) (cL : Nat) (w : World) (I : Nat → Conf → Prop) (hp : PIs w p il) (hW : p.W = 1 ∨ p.W = 2) (hop : ∀ y ∈ il, (y.kind = 1 ∨ y.kind = 5) → 1 ≤ y.op ∧ y.op ≤ 10)
  (hs : StIs w s ms) (htm : Tag w 3 s.mem.A s.mem.n) (hts : Tag w 3 s.stack.A s.stack.n) (hl : RdI w AL l) (hI : Keeps p.W p.window il I) (h0 : I 0 ⟨ms, [], [], 0⟩) :
  Calls Try.prog 25 #[p.v, s.v, .slice AL l.length cL] w (WalkPost (walkOf p.W p.window il (l.take 60) ⟨ms, [], [], 0⟩) w) := by
 have HP := Kept.mk hp
 have HL := Kept.mk hl
 have HKI := Kept.mk hI
 have HI0 := Kept.mk h0
 have HSay := Kept.mk (fun (c : Cnf) (m : Conf) (d : Dir) (w1 : World) (h1 : PIs w1 p il) (h2 : CfIs w1 c m) (h3 : CfTy w1 c) (h4 : Fit il m) (h5 : d ∈ allOf p.W p.window il m) => say_any p il c m d w1 h1 h2 h3 hW hop h4 h5)
 have HAll := Kept.mk (fun (c : Cnf) (m : Conf) (w1 : World) (h1 : PIs w1 p il) (h2 : CfIs w1 c m) (h4 : Fit il m) => all_ref p il c m w1 h1 hW h2 h4.bl h4.ml h4.rl)
 have HC0 : Kept (CfIs w ⟨s, Sl.none, Sl.none, 0⟩ ⟨ms, [], [], 0⟩) := ⟨⟨hs, RdEs.nil, RdIs.nil, rfl⟩⟩
 have HT0 : Kept (CfTy w ⟨s, Sl.none, Sl.none, 0⟩) := ⟨⟨htm, hts, Tag.zero, Tag.zero⟩⟩
 have HB0 := Kept.mk (begin_ref s)
 obtain ⟨N, hN⟩ : ∃ N : Nat, (l.take 60).length = N := ⟨_, rfl⟩
 have hNl : N = min 60 l.length := by rw [← hN, List.length_take]
 have HN := Kept.mk hN
 generalize hRES : walkOf p.W p.window il (l.take 60) ⟨ms, [], [], 0⟩ = RES
 have HRES := Kept.mk hRES
 clear hp hl hI h0 hs htm hts hW hop hN hRES
 obtain ⟨s0, s1, s2, s3, ⟨tA, tN, tC⟩, ⟨uA, uN, uC⟩, spc⟩ := s
 unfold Prg.v Stt.v
 go_enter Try.func25, Try.ntmps25
 go_wp2_with fail
 refine (HB0.out _).mono ?_
 rintro en w1 ⟨rfl, b1⟩
 have b0 := ((below_alloc_self w (.cells p.cs.toArray 33)).alloc (by simp) (.cells (Stt.cs ⟨s0, s1, s2, s3, ⟨tA, tN, tC⟩, ⟨uA, uN, uC⟩, spc⟩).toArray 36)).alloc (by simp; omega) (.cells Cnf.zero.cs.toArray 41)
 have x3 := (b1.block (w.heap.size) (by simp <;> omega)).trans ((heap_alloc_old _ _ (by simp; omega)).trans ((heap_alloc_old _ _ (by simp)).trans (heap_alloc_new w (.cells p.cs.toArray 33))))
 have x6 := (b1.block (w.heap.size + 1 + 1) (by simp <;> omega)).trans (heap_at_new (o := (.cells Cnf.zero.cs.toArray 41)) (by simp))
 have S1 : w.heap.size + 3 ≤ w1.heap.size := by have := b1.size; simp at this; omega
 have W1 := Kept.mk (b0.trans (b1.mono b0.size))
 have X3 := Kept.mk x3
 have X6 := Kept.mk x6
 clear x3 x6 b0 b1 HB0
 go_wp2_with fail
 go_loopw [9, 10] (fun v i' wr => ∃ (k : Nat) (m : Conf) (c : Cnf) (out : List Dir), k ≤ N ∧ i' = .int .i64 (k : Int) ∧ out.length ≤ k ∧ Kept (RES = ((walkOf p.W p.window il ((l.take 60).drop k) m).1, out ++ (walkOf p.W p.window il ((l.take 60).drop k) m).2)) ∧ I k m ∧ OwnD wr (w1.heap.size + 1) v out ∧
  wr.heap[w1.heap.size]? = some (.cells c.cs.toArray 41 (0, 0)) ∧ CfIs wr c m ∧ CfTy wr c ∧ Below w1.heap.size w1 wr) (fun _ i' _ => N - (intOf i').toNat)
 case atStart => exact ⟨0, ⟨ms, [], [], 0⟩, ⟨⟨s0, s1, s2, s3, ⟨tA, tN, tC⟩, ⟨uA, uN, uC⟩, spc⟩, Sl.none, Sl.none, 0⟩, [], Nat.zero_le _, rfl, Nat.le_refl _, ⟨by rw [List.drop_zero, List.nil_append]; exact HRES.out.symm⟩, HI0.out, OwnD.nil, heap_at_new rfl, (HC0.out.past W1.out).past (below_alloc_self _ _), (HT0.out.past W1.out).past (below_alloc_self _ _), below_alloc_self _ _⟩
 case round =>
  obtain ⟨k, m, c, out, hk, rfl, hout, hre, hik, ho, hx8, hc, ht, hb⟩ := hrel
  obtain ⟨oA, oC, rfl, hoc, -⟩ := ho.shape
  have HO := Kept.mk ho
  have HIK := Kept.mk hik
  have HC := Kept.mk hc
  have HT := Kept.mk ht
  have RA := Kept.mk (CfAll.of hc ht)
  have HB := Kept.mk hb
  have HW := Kept.mk (W1.out.trans (hb.mono W1.out.size))
  have K8 := Kept.mk hx8
  have K3 := Kept.mk ((hb.block _ (by omega)).trans X3.out)
  have K6 := Kept.mk ((hb.block _ (by omega)).trans X6.out)
  have S2 : w1.heap.size + 1 ≤ wr.heap.size := (Array.getElem?_eq_some_iff.1 hx8).1
  clear ho hik hc ht hb hx8 hoc
  obtain ⟨⟨r0, r1, r2, r3, ⟨mA, mN, mC⟩, ⟨sA, sN, sC⟩, pc⟩, ⟨bA, bN, bC⟩, ⟨qA, qN, qC⟩, fin⟩ := c
  dsimp only at RA
  by_cases hlt : k < N
  ·have hkl : k < l.length := by omega
   have hki : (k : Int) < (l.length : Int) := by omega
   have hk60 : (k : Int) < 60 := by omega
   have hk1 : k ≤ 59 := by omega
   obtain ⟨lB, lO, rfl, hlb, hle⟩ := RdI.at_ HL.out hkl
   have HLE := Kept.mk hle
   have hd60 : (l.take 60).drop k = l[k] :: (l.take 60).drop (k + 1) := by
    rw [List.drop_eq_getElem_cons (by rw [List.length_take]; omega), List.getElem_take]
   have hre2 := hre.out
   rw [hd60, walkOf] at hre2
   have HRE := Kept.mk hre2
   have HOUT := Kept.mk hout
   clear hre hre2 hd60 hle hout
   have Y3 := fun j => cell_of_row wr w.heap.size j _ _ _ K3.out
   have Y8 := fun j => cell_of_row wr (w1.heap.size) j _ _ _ K8.out
   simp only [Prg.cs, Cnf.cs] at Y3 Y8
   go_wp2_with fail
   refine (HAll.out ⟨⟨r0, r1, r2, r3, ⟨mA, mN, mC⟩, ⟨sA, sN, sC⟩, pc⟩, ⟨bA, bN, bC⟩, ⟨qA, qN, qC⟩, fin⟩ m wr (HP.out.past HW.out) HC.out (HKI.out.fit k m (by omega) HIK.out)).mono ?_
   rintro en w2 ⟨dv, rfl, hd, b2⟩
   obtain ⟨dA, dC, rfl, hdc, rd⟩ := hd.shape
   have HFI := Kept.mk (HKI.out.fit k m (by omega) HIK.out)
   generalize hds : allOf p.W p.window il m = ds at *
   have HDS := Kept.mk hds
   have HRD := Kept.mk rd
   have HB := Kept.mk (HB.out.trans (b2.mono (by omega)))
   have HW := Kept.mk (HW.out.trans (b2.mono HW.out.size))
   have K8 := Kept.mk (heap_keep K8.out b2)
   have K3 := Kept.mk (heap_keep K3.out b2)
   have K6 := Kept.mk (heap_keep K6.out b2)
   have HO := Kept.mk (HO.out.past b2)
   have HC := Kept.mk (HC.out.past b2)
   have HT := Kept.mk (HT.out.past b2)
   have RA := Kept.mk (RA.out.past b2)
   have S3 : wr.heap.size ≤ w2.heap.size := b2.size
   clear hd b2 rd hds Y3 Y8
   by_cases hz : ds.length = 0
   ·have hres := HRE.out
    rw [if_pos hz] at hres
    have HR1 := Kept.mk hres
    have hz' : ((ds.length : Int) == 0) = true := by simp [hz]
    have hz2 := Kept.mk hz
    clear HRE hres hz
    have Y8 := fun j => cell_of_row w2 (w1.heap.size) j _ _ _ K8.out
    have Y6 := fun j => cell_of_row w2 (w.heap.size + 1 + 1) j _ _ _ K6.out
    have F6 := fun j => frozen_of_row w2 (w.heap.size + 1 + 1) j _ _ K6.out
    simp only [Cnf.cs, Cnf.zero, Sl.none] at Y8 Y6
    go_wp2_with fail
    have hg := grown10 w2 (w.heap.size + 1 + 1) ⟨⟨r0, r1, r2, r3, ⟨mA, mN, mC⟩, ⟨sA, sN, sC⟩, pc⟩, ⟨bA, bN, bC⟩, ⟨qA, qN, qC⟩, fin⟩
    have ra := RA.out.row ⟨⟨_, K6.out⟩, hg⟩ (by decide) (by decide)
    have wb := below10 (g := w.heap.size + 1 + 1) ⟨⟨r0, r1, r2, r3, ⟨mA, mN, mC⟩, ⟨sA, sN, sC⟩, pc⟩, ⟨bA, bN, bC⟩, ⟨qA, qN, qC⟩, fin⟩ HW.out (by omega)
    have x4 := cnf_set2 Cnf.zero ⟨⟨r0, r1, r2, r3, ⟨mA, mN, mC⟩, ⟨sA, sN, sC⟩, pc⟩, ⟨bA, bN, bC⟩, ⟨qA, qN, qC⟩, fin⟩ K6.out
    have od : OwnD _ (w.heap.size) (.slice oA out.length oC) out := (show OwnD _ (w1.heap.size + 1) (.slice oA out.length oC) out from World.ownsRow.kept HO.out hg (by
     cases hv : (Value.slice oA out.length oC).ownBlock with
     | none => exact .inl rfl
     | some k => exact .inr (fun e => by injection e with e; have e : k = w.heap.size + 1 + 1 := e; have := (World.ownsRow.lt HO.out k hv).1; omega))).lower (by omega)
    dsimp only at ra wb x4 od
    refine at_ret _ [Cnf.v ⟨⟨r0, r1, r2, r3, ⟨mA, mN, mC⟩, ⟨sA, sN, sC⟩, pc⟩, ⟨bA, bN, bC⟩, ⟨qA, qN, qC⟩, fin⟩, .slice oA out.length oC] Try.results25 (.cons (.cell (cs := Cnf.cs ⟨⟨r0, r1, r2, r3, ⟨mA, mN, mC⟩, ⟨sA, sN, sC⟩, pc⟩, ⟨bA, bN, bC⟩, ⟨qA, qN, qC⟩, fin⟩) (b := w.heap.size + 1 + 1) (off := 0) rfl rfl (cells_of_block x4) Try.underlying41 rfl (by kernel_rfl)) (.cons (.tmp rfl) .nil)) rfl ?_
    refine ⟨⟨⟨r0, r1, r2, r3, ⟨mA, mN, mC⟩, ⟨sA, sN, sC⟩, pc⟩, ⟨bA, bN, bC⟩, ⟨qA, qN, qC⟩, fin⟩, .slice oA out.length oC, rfl, ?_, ra.ty, ?_, wb⟩
    ·rw [HR1.out]
     exact ra.cf HC.out
    ·rw [HR1.out, List.append_nil]
     exact od
   ·have hres := HRE.out
    rw [if_neg hz] at hres
    obtain ⟨hix, hpe, hpm⟩ := pick_mem ds l[k] hz
    rw [hpe] at hres
    have hpn := pick_num l[k] ds.length hz
    have hand := i64_and65535 l[k]
    generalize pickIx l[k] ds.length = ix at *
    generalize hM : l[k] % 65536 = M at *
    have HR1 := Kept.mk hres
    have HAND := Kept.mk hand
    have HPN := Kept.mk hpn
    have HPM := Kept.mk hpm
    have hz' : ((ds.length : Int) == 0) = false := by simp [hz]
    clear HRE hres hpe hand hpn hpm hM
    obtain ⟨dB, dO, rfl, hdB, hdel⟩ := RdD.at_ HRD.out hix
    have HDX := hdel.kept hdB
    have HLX := CellsAt.kept (CellsAt.one (((HW.out.cell (p := ⟨lB, lO + k, none⟩) hlb)).trans HLE.out)) (show lB < w2.heap.size by have := HW.out.size; omega)
    go_wp2_with fail
    refine walk_say w2 w.heap.size w1.heap.size p il ⟨⟨r0, r1, r2, r3, ⟨mA, mN, mC⟩, ⟨sA, sN, sC⟩, pc⟩, ⟨bA, bN, bC⟩, ⟨qA, qN, qC⟩, fin⟩ m (stepOf p.W il m ds[ix]) l k ix lB lO cL dB dO dC ds M hkl hix ⟨HP.out.past HW.out⟩ HC HT (box_kept K3.out) (box_kept K8.out) HLX HDX HAND HPN ⟨fun w3 h1 h2 h3 => HSay.out _ m ds[ix] w3 h1 h2 h3 HFI.out (by rw [HDS.out]; exact HPM.out)⟩ _ ?_
    intros
    rename_i w3 b c1 hb9 hbb hc1 ht1 b3
    have HB := Kept.mk (HB.out.trans (b3.mono (by omega)))
    have HW := Kept.mk (HW.out.trans (b3.mono HW.out.size))
    have K8 := Kept.mk (heap_keep K8.out b3)
    have K6 := Kept.mk (heap_keep K6.out b3)
    have HLT := Kept.mk (fun k hk => (World.ownsRow.lt HO.out k hk).2)
    have HO := Kept.mk (HO.out.past b3)
    have HC1 := Kept.mk hc1
    have RA := Kept.mk (CfAll.of hc1 ht1)
    have KB := Kept.mk hbb
    have S4 : w2.heap.size ≤ w3.heap.size := b3.size
    have S5 : b < w3.heap.size := (Array.getElem?_eq_some_iff.1 hbb).1
    have yl := HLX.out w3 b3 0 _ rfl
    have yd0 := HDX.out w3 b3 0 _ rfl
    have yd1 := HDX.out w3 b3 1 _ rfl
    rw [Nat.add_zero] at yl yd0
    have hand := HAND.out
    have hpn := HPN.out
    have hne : (ds.length : Int) ≠ 0 := by omega
    have hixi : (ix : Int) < (ds.length : Int) := by omega
    clear HC HT HFI HLX HDX hc1 ht1 hbb b3 hz
    obtain ⟨⟨a0, a1, a2, a3, ⟨eA, eN, eC⟩, ⟨fA, fN, fC⟩, a4⟩, ⟨gA, gN, gC⟩, ⟨hA, hN, hC⟩, a5⟩ := c1
    dsimp only at RA
    go_wp2_with (at_builtin; go_must (refine append_dir _ rfl (.tmp 53) (.tmp 65) rfl (w1.heap.size + 1) rfl (HO.out.past (below_alloc_self _ _)) _ ds[ix] rfl (heap_at_new (by simp)) ?c1 ?c2 ?_))
    case c1 => have := HOUT.out; omega
    case c2 => simp; omega
    intro v6 w6 h6 hg6 b6
    have ba := below_alloc_self w3 (.cells #[.int .i64 ds[ix].kind, .int .i64 ds[ix].n] 71)
    have HO6 := Kept.mk h6
    have RA := Kept.mk ((RA.out.past ba).grownD (HO.out.past ba) hg6)
    have HB := Kept.mk ((HB.out.trans (ba.mono (by omega))).trans (b6.mono (by omega)))
    have HW := Kept.mk ((HW.out.trans (ba.mono HW.out.size)).trans (b6.mono (by omega)))
    have K8 := Kept.mk ((b6.block _ (by omega)).trans (heap_keep K8.out ba))
    have K6 := Kept.mk ((b6.block _ (by omega)).trans (heap_keep K6.out ba))
    have KB := Kept.mk ((hg6.block b (by simp; omega) (by intro e; have := HLT.out b e.symm; omega)).trans (heap_keep KB.out ba))
    have hbg : b ≠ w1.heap.size := by omega
    clear h6 hg6 b6 ba HO HLT yl yd0 yd1 hand hpn
    have YB := fun j => cell_of_row w6 b j _ _ _ KB.out
    have Y8 := fun j => cell_of_row w6 (w1.heap.size) j _ _ _ K8.out
    have F8 := fun j => frozen_of_row w6 (w1.heap.size) j _ _ K8.out
    simp only [Cnf.cs] at YB Y8
    go_wp2_with fail
    have hg := grown10 w6 (w1.heap.size) ⟨⟨a0, a1, a2, a3, ⟨eA, eN, eC⟩, ⟨fA, fN, fC⟩, a4⟩, ⟨gA, gN, gC⟩, ⟨hA, hN, hC⟩, a5⟩
    have ra := RA.out.row ⟨⟨_, K8.out⟩, hg⟩ (by decide) (by decide)
    have wb := below10 (g := w1.heap.size) ⟨⟨a0, a1, a2, a3, ⟨eA, eN, eC⟩, ⟨fA, fN, fC⟩, a4⟩, ⟨gA, gN, gC⟩, ⟨hA, hN, hC⟩, a5⟩ HB.out (Nat.le_refl _)
    have x4 := cnf_set2 ⟨⟨r0, r1, r2, r3, ⟨mA, mN, mC⟩, ⟨sA, sN, sC⟩, pc⟩, ⟨bA, bN, bC⟩, ⟨qA, qN, qC⟩, fin⟩ ⟨⟨a0, a1, a2, a3, ⟨eA, eN, eC⟩, ⟨fA, fN, fC⟩, a4⟩, ⟨gA, gN, gC⟩, ⟨hA, hN, hC⟩, a5⟩ K8.out
    have od : OwnD _ (w1.heap.size + 1) v6 (out ++ [ds[ix]]) := World.ownsRow.kept HO6.out hg (by
     cases hv : v6.ownBlock with
     | none => exact .inl rfl
     | some k => exact .inr (fun e => by injection e with e; have e : k = w1.heap.size := e; have := (World.ownsRow.lt HO6.out k hv).1; omega))
    dsimp only at ra wb x4 od
    refine ⟨⟨k + 1, stepOf p.W il m ds[ix], ⟨⟨a0, a1, a2, a3, ⟨eA, eN, eC⟩, ⟨fA, fN, fC⟩, a4⟩, ⟨gA, gN, gC⟩, ⟨hA, hN, hC⟩, a5⟩, out ++ [ds[ix]], by omega, by go_num, ?_, ⟨?_⟩, HKI.out.step k m _ HIK.out (by rw [HDS.out]; exact HPM.out), od, x4, ra.cf HC1.out, ra.ty, wb⟩, by simp [intOf] <;> omega⟩
    ·have := HOUT.out
     rw [List.length_append, List.length_singleton]
     omega
    ·refine HR1.out.trans ?_
     rw [List.append_assoc]
     rfl
  ·have hkn : k = N := by omega
   have hres := hre.out
   rw [List.drop_of_length_le (by rw [HN.out]; omega), walkOf] at hres
   have HR1 := Kept.mk hres
   clear hre hres
   by_cases hkl : (k : Int) < (l.length : Int)
   ·have hk60 : ¬ (k : Int) < 60 := by omega
    have Y8 := fun j => cell_of_row wr (w1.heap.size) j _ _ _ K8.out
    have Y6 := fun j => cell_of_row wr (w.heap.size + 1 + 1) j _ _ _ K6.out
    have F6 := fun j => frozen_of_row wr (w.heap.size + 1 + 1) j _ _ K6.out
    simp only [Cnf.cs, Cnf.zero, Sl.none] at Y8 Y6
    go_wp2_with fail
    have hg := grown10 wr (w.heap.size + 1 + 1) ⟨⟨r0, r1, r2, r3, ⟨mA, mN, mC⟩, ⟨sA, sN, sC⟩, pc⟩, ⟨bA, bN, bC⟩, ⟨qA, qN, qC⟩, fin⟩
    have ra := RA.out.row ⟨⟨_, K6.out⟩, hg⟩ (by decide) (by decide)
    have wb := below10 (g := w.heap.size + 1 + 1) ⟨⟨r0, r1, r2, r3, ⟨mA, mN, mC⟩, ⟨sA, sN, sC⟩, pc⟩, ⟨bA, bN, bC⟩, ⟨qA, qN, qC⟩, fin⟩ HW.out (by omega)
    have x4 := cnf_set2 Cnf.zero ⟨⟨r0, r1, r2, r3, ⟨mA, mN, mC⟩, ⟨sA, sN, sC⟩, pc⟩, ⟨bA, bN, bC⟩, ⟨qA, qN, qC⟩, fin⟩ K6.out
    have od : OwnD _ (w.heap.size) (.slice oA out.length oC) out := (show OwnD _ (w1.heap.size + 1) (.slice oA out.length oC) out from World.ownsRow.kept HO.out hg (by
     cases hv : (Value.slice oA out.length oC).ownBlock with
     | none => exact .inl rfl
     | some k => exact .inr (fun e => by injection e with e; have e : k = w.heap.size + 1 + 1 := e; have := (World.ownsRow.lt HO.out k hv).1; omega))).lower (by omega)
    dsimp only at ra wb x4 od
    refine at_ret _ [Cnf.v ⟨⟨r0, r1, r2, r3, ⟨mA, mN, mC⟩, ⟨sA, sN, sC⟩, pc⟩, ⟨bA, bN, bC⟩, ⟨qA, qN, qC⟩, fin⟩, .slice oA out.length oC] Try.results25 (.cons (.cell (cs := Cnf.cs ⟨⟨r0, r1, r2, r3, ⟨mA, mN, mC⟩, ⟨sA, sN, sC⟩, pc⟩, ⟨bA, bN, bC⟩, ⟨qA, qN, qC⟩, fin⟩) (b := w.heap.size + 1 + 1) (off := 0) rfl rfl (cells_of_block x4) Try.underlying41 rfl (by kernel_rfl)) (.cons (.tmp rfl) .nil)) rfl ?_
    refine ⟨⟨⟨r0, r1, r2, r3, ⟨mA, mN, mC⟩, ⟨sA, sN, sC⟩, pc⟩, ⟨bA, bN, bC⟩, ⟨qA, qN, qC⟩, fin⟩, .slice oA out.length oC, rfl, ?_, ra.ty, ?_, wb⟩
    ·rw [HR1.out]
     exact ra.cf HC.out
    ·rw [HR1.out, List.append_nil]
     exact od
   ·skip
    have Y8 := fun j => cell_of_row wr (w1.heap.size) j _ _ _ K8.out
    have Y6 := fun j => cell_of_row wr (w.heap.size + 1 + 1) j _ _ _ K6.out
    have F6 := fun j => frozen_of_row wr (w.heap.size + 1 + 1) j _ _ K6.out
    simp only [Cnf.cs, Cnf.zero, Sl.none] at Y8 Y6
    go_wp2_with fail
    have hg := grown10 wr (w.heap.size + 1 + 1) ⟨⟨r0, r1, r2, r3, ⟨mA, mN, mC⟩, ⟨sA, sN, sC⟩, pc⟩, ⟨bA, bN, bC⟩, ⟨qA, qN, qC⟩, fin⟩
    have ra := RA.out.row ⟨⟨_, K6.out⟩, hg⟩ (by decide) (by decide)
    have wb := below10 (g := w.heap.size + 1 + 1) ⟨⟨r0, r1, r2, r3, ⟨mA, mN, mC⟩, ⟨sA, sN, sC⟩, pc⟩, ⟨bA, bN, bC⟩, ⟨qA, qN, qC⟩, fin⟩ HW.out (by omega)
    have x4 := cnf_set2 Cnf.zero ⟨⟨r0, r1, r2, r3, ⟨mA, mN, mC⟩, ⟨sA, sN, sC⟩, pc⟩, ⟨bA, bN, bC⟩, ⟨qA, qN, qC⟩, fin⟩ K6.out
    have od : OwnD _ (w.heap.size) (.slice oA out.length oC) out := (show OwnD _ (w1.heap.size + 1) (.slice oA out.length oC) out from World.ownsRow.kept HO.out hg (by
     cases hv : (Value.slice oA out.length oC).ownBlock with
     | none => exact .inl rfl
     | some k => exact .inr (fun e => by injection e with e; have e : k = w.heap.size + 1 + 1 := e; have := (World.ownsRow.lt HO.out k hv).1; omega))).lower (by omega)
    dsimp only at ra wb x4 od
    refine at_ret _ [Cnf.v ⟨⟨r0, r1, r2, r3, ⟨mA, mN, mC⟩, ⟨sA, sN, sC⟩, pc⟩, ⟨bA, bN, bC⟩, ⟨qA, qN, qC⟩, fin⟩, .slice oA out.length oC] Try.results25 (.cons (.cell (cs := Cnf.cs ⟨⟨r0, r1, r2, r3, ⟨mA, mN, mC⟩, ⟨sA, sN, sC⟩, pc⟩, ⟨bA, bN, bC⟩, ⟨qA, qN, qC⟩, fin⟩) (b := w.heap.size + 1 + 1) (off := 0) rfl rfl (cells_of_block x4) Try.underlying41 rfl (by kernel_rfl)) (.cons (.tmp rfl) .nil)) rfl ?_
    refine ⟨⟨⟨r0, r1, r2, r3, ⟨mA, mN, mC⟩, ⟨sA, sN, sC⟩, pc⟩, ⟨bA, bN, bC⟩, ⟨qA, qN, qC⟩, fin⟩, .slice oA out.length oC, rfl, ?_, ra.ty, ?_, wb⟩
    ·rw [HR1.out]
     exact ra.cf HC.out
    ·rw [HR1.out, List.append_nil]
     exact od
end Go.Proofs.Ytchldbkjapnlcaa
end
