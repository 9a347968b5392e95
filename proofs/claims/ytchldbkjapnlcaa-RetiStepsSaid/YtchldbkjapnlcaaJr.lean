/- reti.commit: what is committed of an entry. reti.Can, reti.ended: whether the oldest may be committed, how a machine ends with it. reti.Do: the oldest is committed, or not. -/
import Derived.Test.YtchldbkjapnlcaaJnb
import Derived.Test.YtchldbkjapnlcaaJRet
import Derived.BigRegion
import Derived.Deep.RegionLaw
import Derived.Test.YtchldbkjapnlcaaJd
import Derived.Test.YtchldbkjapnlcaaJj
set_option linter.unusedVariables false
set_option linter.unusedSimpArgs false
namespace Go.Proofs.Ytchldbkjapnlcaa
open Go.RowKit
section
theorem step_append_any {P : Program} {ops : Array Oper} {w : World} {o : Oper} {a : Act} {K : Act → World → Prop} {Q : Exit → Act → World → Prop} {E : Prop} (hgd : o.guard = none) (s x : Operand) (t : TypeId)
  (ho : o.op = .call { callee := .builtin .append, args := #[s, x], argTypes := #[t, t] })
  (base : Nat) (e : TypeId) (i : TypeInfo) (z : Value) (size bytes : Nat) (ht : P.underlying t = some (.slice e)) (hi : P.info? e = some i) (hz : i.zero = some z)
  (hsize : i.size = size) (hby : i.bytes = bytes) (hzs : z.cells.size = size) (hsz : 0 < size)
  (v : Value) (n : Nat) (xs : List Value) (hs : a.eval s = v) (hown : w.ownsRow base e size v n xs)
  (B : Nat) (A : Option Addr) (m c : Nat) (news : List Value) (hx : a.eval x = .slice A m c) (hr : Reads w B size A m news) (h1 : ∀ u ∈ news, u.oneCell' = true)
  (h63 : n + m ≤ maxLen) (hbytes : (n + m) * bytes ≤ 140737488355328) (hbase : base ≤ w.heap.size)
  (h : ∀ v' w', w'.ownsRow base e size v' (n + m) (xs ++ news) → w.grownBy w' v.ownBlock → (v'.ownBlock = v.ownBlock ∨ v'.ownBlock = some w.heap.size) → K (a.put o.dst v') w') :
  if Region.wanted o (yielded ops a.tmps) = true then Oper.wp P o a w K Q else E := by
 have hw : Region.wanted o (yielded ops a.tmps) = true := by simp [Region.wanted, hgd]
 rw [if_pos hw]
 exact wp_append_any w s x t ho base e i z size bytes ht hi hz hsize hby hzs hsz v n xs hs hown B A m c news hx hr h1 h63 hbytes hbase h
theorem ne_of_dj {A A' : Option Addr} {n n' c c' : Nat} (h : Dj (.slice A n c) (.slice A' n' c')) : (Value.slice A' n' c').ownBlock = none ∨ (Value.slice A' n' c').ownBlock ≠ (Value.slice A n c).ownBlock := by
 cases hv : (Value.slice A' n' c').ownBlock with
 | none => exact .inl rfl
 | some k => exact .inr (fun e => h k (by simp only [blocksOf, ← e, Option.toList_some, List.mem_singleton]) (by simp only [blocksOf, hv, Option.toList_some, List.mem_singleton]))
theorem dj_mem {c : Stt} {u : Value} (h : Dj c.v u) : Dj (.slice c.mem.A c.mem.n c.mem.c) u := fun k hk => h k ((blocks_st c k).2 (.inl hk))
theorem dj_stack {c : Stt} {u : Value} (h : Dj c.v u) : Dj (.slice c.stack.A c.stack.n c.stack.c) u := fun k hk => h k ((blocks_st c k).2 (.inr hk))
theorem dj_st {c : Stt} {u : Value} (h1 : Dj (.slice c.mem.A c.mem.n c.mem.c) u) (h2 : Dj (.slice c.stack.A c.stack.n c.stack.c) u) : Dj c.v u := fun k hk => by
 rcases (blocks_st c k).1 hk with hk | hk
 ·exact h1 k hk
 ·exact h2 k hk
theorem dj_new {w : World} {B : Nat} {e : TypeId} {size : Nat} {A A' : Option Addr} {n c n' c' n2 c2 : Nat} {A2 : Option Addr} {k : Nat} {xs : List Value} (ho : w.ownsRow B e size (.slice A' n' c') k xs) (hd : Dj (.slice A2 n2 c2) (.slice A' n' c'))
  (hb : (Value.slice A n c).ownBlock = (Value.slice A2 n2 c2).ownBlock ∨ ∀ k, (Value.slice A n c).ownBlock = some k → w.heap.size ≤ k) : Dj (.slice A n c) (.slice A' n' c') := by
 refine dj_of_own fun k hk hk' => ?_
 rcases hb with hb | hb
 ·exact hd k (by simp only [blocksOf, ← hb, hk, Option.toList_some, List.mem_singleton]) (by simp only [blocksOf, hk', Option.toList_some, List.mem_singleton])
 ·have h1 := hb k hk
  have h2 := (World.ownsRow.lt ho k hk').2
  omega
theorem CfOwn.putStack {w w' : World} {B : Nat} {c : Cnf} {m : Conf} (h : CfOwn w B c m) (s : Sl) (l : List Int) (hg : w.grownBy w' (Value.slice c.st.stack.A c.st.stack.n c.st.stack.c).ownBlock) (hv : OwnI w' B (.slice s.A s.n s.c) l)
  (hb : (Value.slice s.A s.n s.c).ownBlock = (Value.slice c.st.stack.A c.st.stack.n c.st.stack.c).ownBlock ∨ ∀ k, (Value.slice s.A s.n s.c).ownBlock = some k → w.heap.size ≤ k) :
  CfOwn w' B { c with st := { c.st with stack := s } } { m with st := { m.st with stack := l } } :=
 ⟨⟨h.st.r0, h.st.r1, h.st.r2, h.st.r3, World.ownsRow.kept h.st.mem hg (ne_of_dj h.st.dj.symm), hv, h.st.pc, (dj_new h.st.mem h.st.dj.symm hb).symm⟩,
  World.ownsRow.kept h.buf hg (ne_of_dj (dj_stack h.djb)), World.ownsRow.kept h.rsb hg (ne_of_dj (dj_stack h.djq)), h.fin,
  dj_st (dj_mem (c := c.st) h.djb) (dj_new h.buf (dj_stack h.djb) hb), dj_st (dj_mem (c := c.st) h.djq) (dj_new h.rsb (dj_stack h.djq) hb), h.djx⟩
theorem CfOwn.setMem {w : World} {B : Nat} {c : Cnf} {m : Conf} (h : CfOwn w B c m) (g k : Nat) (v : Value) (l : List Int) (hA : c.st.mem.A = some ⟨g, 0, none⟩) (hv : OwnI (w.setCell ⟨g, k, none⟩ v) B (.slice c.st.mem.A c.st.mem.n c.st.mem.c) l) :
  CfOwn (w.setCell ⟨g, k, none⟩ v) B c { m with st := { m.st with mem := l } } := by
 have hg : w.grownBy (w.setCell ⟨g, k, none⟩ v) (Value.slice c.st.mem.A c.st.mem.n c.st.mem.c).ownBlock := by rw [hA]; exact q08 w ⟨g, k, none⟩ v
 exact ⟨⟨h.st.r0, h.st.r1, h.st.r2, h.st.r3, hv, World.ownsRow.kept h.st.stack hg (ne_of_dj h.st.dj), h.st.pc, h.st.dj⟩,
  World.ownsRow.kept h.buf hg (ne_of_dj (dj_mem h.djb)), World.ownsRow.kept h.rsb hg (ne_of_dj (dj_mem h.djq)), h.fin, h.djb, h.djq, h.djx⟩
def PCom (b B : Nat) (m' : Conf) (w : World) (en : Ending) (w' : World) : Prop := en = .returned (.tuple #[]) ∧ ∃ c' : Cnf, w'.heap[b]? = some (.cells c'.cs.toArray 41 (0, 0)) ∧ CfOwn w' B c' m' ∧ Below b w w' ∧ ∀ k, k < B → k ≠ b → w'.heap[k]? = w.heap[k]?
set_option maxRecDepth 100000 in
set_option maxHeartbeats 1600000 in
theorem pcommit_reg (b B : Nat) (c : Cnf) (m : Conf) (e : Ent) (x : Inst) (w : World) (hb : w.heap[b]? = some (.cells c.cs.toArray 41 (0, 0))) (hbB : b < B) (hB : B ≤ w.heap.size) (ho : CfOwn w B c m) (hk : x.kind = 1 ∨ x.kind = 2 ∨ x.kind = 4) (hd : 0 ≤ x.d ∧ x.d ≤ 3) :
  Calls Try.prog 66 #[.pointer (some ⟨b, 0, none⟩), e.v, x.v] w (PCom b B ({ m with st := setReg m.st x.d e.val }) w) := by
 have HO := Kept.mk ho
 have hs : b < w.heap.size := by omega
 obtain ⟨⟨r0, r1, r2, r3, ⟨mA, mN, mC⟩, ⟨sA, sN, sC⟩, pc⟩, ⟨bA, bN, bC⟩, ⟨qA, qN, qC⟩, fin⟩ := c
 obtain ⟨e0, e1, e2, e3, e4, e5, e6, e7⟩ := e
 obtain ⟨xkind, xop, xd, xar, xan, xbr, xbn, xname, xt⟩ := x
 simp only at *
 clear ho
 have hd' : xd = 0 ∨ xd = 1 ∨ xd = 2 ∨ xd = 3 := by omega
 clear hd
 rcases hk with rfl | rfl | rfl
 all_goals rcases hd' with rfl | rfl | rfl | rfl
 ·have bb := (q00 w (.cells #[.int .i64 e0, .int .i64 e1, .int .i64 e2, .int .i64 e3, .int .i64 e4, .bool e5, .bool e6, .bool e7] 55)).alloc (by simp) (.cells #[.int .i64 1, .int .i64 xop, .int .i64 0, .bool xar, .int .i64 xan, .bool xbr, .int .i64 xbn, .string xname, .int .i64 xt] 53)
  have XE := q01 (heap_alloc_new w (.cells #[.int .i64 e0, .int .i64 e1, .int .i64 e2, .int .i64 e3, .int .i64 e4, .bool e5, .bool e6, .bool e7] 55)) (q00 _ (.cells #[.int .i64 1, .int .i64 xop, .int .i64 0, .bool xar, .int .i64 xan, .bool xbr, .int .i64 xbn, .string xname, .int .i64 xt] 53))
  have XX := heap_alloc2_new w (.cells #[.int .i64 e0, .int .i64 e1, .int .i64 e2, .int .i64 e3, .int .i64 e4, .bool e5, .bool e6, .bool e7] 55) (.cells #[.int .i64 1, .int .i64 xop, .int .i64 0, .bool xar, .int .i64 xan, .bool xbr, .int .i64 xbn, .string xname, .int .i64 xt] 53)
  have XC := q01 (q01 hb (q00 w (.cells #[.int .i64 e0, .int .i64 e1, .int .i64 e2, .int .i64 e3, .int .i64 e4, .bool e5, .bool e6, .bool e7] 55))) (q00 _ (.cells #[.int .i64 1, .int .i64 xop, .int .i64 0, .bool xar, .int .i64 xan, .bool xbr, .int .i64 xbn, .string xname, .int .i64 xt] 53))
  have SZ : ((w.alloc (.cells #[.int .i64 e0, .int .i64 e1, .int .i64 e2, .int .i64 e3, .int .i64 e4, .bool e5, .bool e6, .bool e7] 55)).alloc (.cells #[.int .i64 1, .int .i64 xop, .int .i64 0, .bool xar, .int .i64 xan, .bool xbr, .int .i64 xbn, .string xname, .int .i64 xt] 53)).heap.size = w.heap.size + 2 := by simp
  go_enter Try.func66, Try.ntmps66
  go_upto_region 1 with (fail)
  have HO := Kept.mk (HO.out.past bb)
  have W2 := Kept.mk (bb.mono (Nat.le_of_lt hs))
  have WF : Kept (∀ qq, qq < w.heap.size → ((w.alloc (.cells #[.int .i64 e0, .int .i64 e1, .int .i64 e2, .int .i64 e3, .int .i64 e4, .bool e5, .bool e6, .bool e7] 55)).alloc (.cells #[.int .i64 1, .int .i64 xop, .int .i64 0, .bool xar, .int .i64 xan, .bool xbr, .int .i64 xbn, .string xname, .int .i64 xt] 53)).heap[qq]? = w.heap[qq]?) := ⟨bb.block⟩
  clear bb hb
  generalize (w.alloc (.cells #[.int .i64 e0, .int .i64 e1, .int .i64 e2, .int .i64 e3, .int .i64 e4, .bool e5, .bool e6, .bool e7] 55)).alloc (.cells #[.int .i64 1, .int .i64 xop, .int .i64 0, .bool xar, .int .i64 xan, .bool xbr, .int .i64 xbn, .string xname, .int .i64 xt] 53) = w2 at *
  have Y4 := fun j => cell_of_row w2 w.heap.size j _ _ _ XE
  have Y5 := fun j => cell_of_row w2 (w.heap.size + 1) j _ _ _ XX
  have YB := fun j => cell_of_row w2 b j _ _ _ XC
  have FB := fun j => frozen_of_row w2 b j _ _ XC
  have KC := Kept.mk XC
  have XE2 := Kept.mk XE
  simp only [Cnf.cs] at YB
  clear XE XX XC
  go_upto_region 6 with (fail)
  go_region
  go_wp2_with fail
  refine q0C _ [] Try.results66 .nil rfl ?_
  refine ⟨rfl, ⟨⟨e1, r1, r2, r3, ⟨mA, mN, mC⟩, ⟨sA, sN, sC⟩, pc⟩, ⟨bA, bN, bC⟩, ⟨qA, qN, qC⟩, fin⟩, heap_setCell_same _ b 0 _ _ _ KC.out, ?_, (W2.out.setCell (p := ⟨b, 0, none⟩) (Nat.le_refl _) _).drew, fun k hk hne => (heap_setCell_other w2 ⟨b, 0, none⟩ k _ (by first | exact hne | exact Ne.symm hne)).trans (WF.out k (by omega))⟩
  refine CfOwn.past (w := w2.setCell ⟨b, 0, none⟩ (.int .i64 e1)) ?_ (Below.refl _ _).drew
  refine CfOwn.far ?_ (by exact hbB) _
  exact ⟨⟨rfl, HO.out.st.r1, HO.out.st.r2, HO.out.st.r3, HO.out.st.mem, HO.out.st.stack, HO.out.st.pc, HO.out.st.dj⟩, HO.out.buf, HO.out.rsb, HO.out.fin, HO.out.djb, HO.out.djq, HO.out.djx⟩
 ·have bb := (q00 w (.cells #[.int .i64 e0, .int .i64 e1, .int .i64 e2, .int .i64 e3, .int .i64 e4, .bool e5, .bool e6, .bool e7] 55)).alloc (by simp) (.cells #[.int .i64 1, .int .i64 xop, .int .i64 1, .bool xar, .int .i64 xan, .bool xbr, .int .i64 xbn, .string xname, .int .i64 xt] 53)
  have XE := q01 (heap_alloc_new w (.cells #[.int .i64 e0, .int .i64 e1, .int .i64 e2, .int .i64 e3, .int .i64 e4, .bool e5, .bool e6, .bool e7] 55)) (q00 _ (.cells #[.int .i64 1, .int .i64 xop, .int .i64 1, .bool xar, .int .i64 xan, .bool xbr, .int .i64 xbn, .string xname, .int .i64 xt] 53))
  have XX := heap_alloc2_new w (.cells #[.int .i64 e0, .int .i64 e1, .int .i64 e2, .int .i64 e3, .int .i64 e4, .bool e5, .bool e6, .bool e7] 55) (.cells #[.int .i64 1, .int .i64 xop, .int .i64 1, .bool xar, .int .i64 xan, .bool xbr, .int .i64 xbn, .string xname, .int .i64 xt] 53)
  have XC := q01 (q01 hb (q00 w (.cells #[.int .i64 e0, .int .i64 e1, .int .i64 e2, .int .i64 e3, .int .i64 e4, .bool e5, .bool e6, .bool e7] 55))) (q00 _ (.cells #[.int .i64 1, .int .i64 xop, .int .i64 1, .bool xar, .int .i64 xan, .bool xbr, .int .i64 xbn, .string xname, .int .i64 xt] 53))
  have SZ : ((w.alloc (.cells #[.int .i64 e0, .int .i64 e1, .int .i64 e2, .int .i64 e3, .int .i64 e4, .bool e5, .bool e6, .bool e7] 55)).alloc (.cells #[.int .i64 1, .int .i64 xop, .int .i64 1, .bool xar, .int .i64 xan, .bool xbr, .int .i64 xbn, .string xname, .int .i64 xt] 53)).heap.size = w.heap.size + 2 := by simp
  go_enter Try.func66, Try.ntmps66
  go_upto_region 1 with (fail)
  have HO := Kept.mk (HO.out.past bb)
  have W2 := Kept.mk (bb.mono (Nat.le_of_lt hs))
  have WF : Kept (∀ qq, qq < w.heap.size → ((w.alloc (.cells #[.int .i64 e0, .int .i64 e1, .int .i64 e2, .int .i64 e3, .int .i64 e4, .bool e5, .bool e6, .bool e7] 55)).alloc (.cells #[.int .i64 1, .int .i64 xop, .int .i64 1, .bool xar, .int .i64 xan, .bool xbr, .int .i64 xbn, .string xname, .int .i64 xt] 53)).heap[qq]? = w.heap[qq]?) := ⟨bb.block⟩
  clear bb hb
  generalize (w.alloc (.cells #[.int .i64 e0, .int .i64 e1, .int .i64 e2, .int .i64 e3, .int .i64 e4, .bool e5, .bool e6, .bool e7] 55)).alloc (.cells #[.int .i64 1, .int .i64 xop, .int .i64 1, .bool xar, .int .i64 xan, .bool xbr, .int .i64 xbn, .string xname, .int .i64 xt] 53) = w2 at *
  have Y4 := fun j => cell_of_row w2 w.heap.size j _ _ _ XE
  have Y5 := fun j => cell_of_row w2 (w.heap.size + 1) j _ _ _ XX
  have YB := fun j => cell_of_row w2 b j _ _ _ XC
  have FB := fun j => frozen_of_row w2 b j _ _ XC
  have KC := Kept.mk XC
  have XE2 := Kept.mk XE
  simp only [Cnf.cs] at YB
  clear XE XX XC
  go_upto_region 6 with (fail)
  go_region
  go_wp2_with fail
  refine q0C _ [] Try.results66 .nil rfl ?_
  refine ⟨rfl, ⟨⟨r0, e1, r2, r3, ⟨mA, mN, mC⟩, ⟨sA, sN, sC⟩, pc⟩, ⟨bA, bN, bC⟩, ⟨qA, qN, qC⟩, fin⟩, heap_setCell_same _ b 1 _ _ _ KC.out, ?_, (W2.out.setCell (p := ⟨b, 1, none⟩) (Nat.le_refl _) _).drew, fun k hk hne => (heap_setCell_other w2 ⟨b, 1, none⟩ k _ (by first | exact hne | exact Ne.symm hne)).trans (WF.out k (by omega))⟩
  refine CfOwn.past (w := w2.setCell ⟨b, 1, none⟩ (.int .i64 e1)) ?_ (Below.refl _ _).drew
  refine CfOwn.far ?_ (by exact hbB) _
  exact ⟨⟨HO.out.st.r0, rfl, HO.out.st.r2, HO.out.st.r3, HO.out.st.mem, HO.out.st.stack, HO.out.st.pc, HO.out.st.dj⟩, HO.out.buf, HO.out.rsb, HO.out.fin, HO.out.djb, HO.out.djq, HO.out.djx⟩
 ·have bb := (q00 w (.cells #[.int .i64 e0, .int .i64 e1, .int .i64 e2, .int .i64 e3, .int .i64 e4, .bool e5, .bool e6, .bool e7] 55)).alloc (by simp) (.cells #[.int .i64 1, .int .i64 xop, .int .i64 2, .bool xar, .int .i64 xan, .bool xbr, .int .i64 xbn, .string xname, .int .i64 xt] 53)
  have XE := q01 (heap_alloc_new w (.cells #[.int .i64 e0, .int .i64 e1, .int .i64 e2, .int .i64 e3, .int .i64 e4, .bool e5, .bool e6, .bool e7] 55)) (q00 _ (.cells #[.int .i64 1, .int .i64 xop, .int .i64 2, .bool xar, .int .i64 xan, .bool xbr, .int .i64 xbn, .string xname, .int .i64 xt] 53))
  have XX := heap_alloc2_new w (.cells #[.int .i64 e0, .int .i64 e1, .int .i64 e2, .int .i64 e3, .int .i64 e4, .bool e5, .bool e6, .bool e7] 55) (.cells #[.int .i64 1, .int .i64 xop, .int .i64 2, .bool xar, .int .i64 xan, .bool xbr, .int .i64 xbn, .string xname, .int .i64 xt] 53)
  have XC := q01 (q01 hb (q00 w (.cells #[.int .i64 e0, .int .i64 e1, .int .i64 e2, .int .i64 e3, .int .i64 e4, .bool e5, .bool e6, .bool e7] 55))) (q00 _ (.cells #[.int .i64 1, .int .i64 xop, .int .i64 2, .bool xar, .int .i64 xan, .bool xbr, .int .i64 xbn, .string xname, .int .i64 xt] 53))
  have SZ : ((w.alloc (.cells #[.int .i64 e0, .int .i64 e1, .int .i64 e2, .int .i64 e3, .int .i64 e4, .bool e5, .bool e6, .bool e7] 55)).alloc (.cells #[.int .i64 1, .int .i64 xop, .int .i64 2, .bool xar, .int .i64 xan, .bool xbr, .int .i64 xbn, .string xname, .int .i64 xt] 53)).heap.size = w.heap.size + 2 := by simp
  go_enter Try.func66, Try.ntmps66
  go_upto_region 1 with (fail)
  have HO := Kept.mk (HO.out.past bb)
  have W2 := Kept.mk (bb.mono (Nat.le_of_lt hs))
  have WF : Kept (∀ qq, qq < w.heap.size → ((w.alloc (.cells #[.int .i64 e0, .int .i64 e1, .int .i64 e2, .int .i64 e3, .int .i64 e4, .bool e5, .bool e6, .bool e7] 55)).alloc (.cells #[.int .i64 1, .int .i64 xop, .int .i64 2, .bool xar, .int .i64 xan, .bool xbr, .int .i64 xbn, .string xname, .int .i64 xt] 53)).heap[qq]? = w.heap[qq]?) := ⟨bb.block⟩
  clear bb hb
  generalize (w.alloc (.cells #[.int .i64 e0, .int .i64 e1, .int .i64 e2, .int .i64 e3, .int .i64 e4, .bool e5, .bool e6, .bool e7] 55)).alloc (.cells #[.int .i64 1, .int .i64 xop, .int .i64 2, .bool xar, .int .i64 xan, .bool xbr, .int .i64 xbn, .string xname, .int .i64 xt] 53) = w2 at *
  have Y4 := fun j => cell_of_row w2 w.heap.size j _ _ _ XE
  have Y5 := fun j => cell_of_row w2 (w.heap.size + 1) j _ _ _ XX
  have YB := fun j => cell_of_row w2 b j _ _ _ XC
  have FB := fun j => frozen_of_row w2 b j _ _ XC
  have KC := Kept.mk XC
  have XE2 := Kept.mk XE
  simp only [Cnf.cs] at YB
  clear XE XX XC
  go_upto_region 6 with (fail)
  go_region
  go_wp2_with fail
  refine q0C _ [] Try.results66 .nil rfl ?_
  refine ⟨rfl, ⟨⟨r0, r1, e1, r3, ⟨mA, mN, mC⟩, ⟨sA, sN, sC⟩, pc⟩, ⟨bA, bN, bC⟩, ⟨qA, qN, qC⟩, fin⟩, heap_setCell_same _ b 2 _ _ _ KC.out, ?_, (W2.out.setCell (p := ⟨b, 2, none⟩) (Nat.le_refl _) _).drew, fun k hk hne => (heap_setCell_other w2 ⟨b, 2, none⟩ k _ (by first | exact hne | exact Ne.symm hne)).trans (WF.out k (by omega))⟩
  refine CfOwn.past (w := w2.setCell ⟨b, 2, none⟩ (.int .i64 e1)) ?_ (Below.refl _ _).drew
  refine CfOwn.far ?_ (by exact hbB) _
  exact ⟨⟨HO.out.st.r0, HO.out.st.r1, rfl, HO.out.st.r3, HO.out.st.mem, HO.out.st.stack, HO.out.st.pc, HO.out.st.dj⟩, HO.out.buf, HO.out.rsb, HO.out.fin, HO.out.djb, HO.out.djq, HO.out.djx⟩
 ·have bb := (q00 w (.cells #[.int .i64 e0, .int .i64 e1, .int .i64 e2, .int .i64 e3, .int .i64 e4, .bool e5, .bool e6, .bool e7] 55)).alloc (by simp) (.cells #[.int .i64 1, .int .i64 xop, .int .i64 3, .bool xar, .int .i64 xan, .bool xbr, .int .i64 xbn, .string xname, .int .i64 xt] 53)
  have XE := q01 (heap_alloc_new w (.cells #[.int .i64 e0, .int .i64 e1, .int .i64 e2, .int .i64 e3, .int .i64 e4, .bool e5, .bool e6, .bool e7] 55)) (q00 _ (.cells #[.int .i64 1, .int .i64 xop, .int .i64 3, .bool xar, .int .i64 xan, .bool xbr, .int .i64 xbn, .string xname, .int .i64 xt] 53))
  have XX := heap_alloc2_new w (.cells #[.int .i64 e0, .int .i64 e1, .int .i64 e2, .int .i64 e3, .int .i64 e4, .bool e5, .bool e6, .bool e7] 55) (.cells #[.int .i64 1, .int .i64 xop, .int .i64 3, .bool xar, .int .i64 xan, .bool xbr, .int .i64 xbn, .string xname, .int .i64 xt] 53)
  have XC := q01 (q01 hb (q00 w (.cells #[.int .i64 e0, .int .i64 e1, .int .i64 e2, .int .i64 e3, .int .i64 e4, .bool e5, .bool e6, .bool e7] 55))) (q00 _ (.cells #[.int .i64 1, .int .i64 xop, .int .i64 3, .bool xar, .int .i64 xan, .bool xbr, .int .i64 xbn, .string xname, .int .i64 xt] 53))
  have SZ : ((w.alloc (.cells #[.int .i64 e0, .int .i64 e1, .int .i64 e2, .int .i64 e3, .int .i64 e4, .bool e5, .bool e6, .bool e7] 55)).alloc (.cells #[.int .i64 1, .int .i64 xop, .int .i64 3, .bool xar, .int .i64 xan, .bool xbr, .int .i64 xbn, .string xname, .int .i64 xt] 53)).heap.size = w.heap.size + 2 := by simp
  go_enter Try.func66, Try.ntmps66
  go_upto_region 1 with (fail)
  have HO := Kept.mk (HO.out.past bb)
  have W2 := Kept.mk (bb.mono (Nat.le_of_lt hs))
  have WF : Kept (∀ qq, qq < w.heap.size → ((w.alloc (.cells #[.int .i64 e0, .int .i64 e1, .int .i64 e2, .int .i64 e3, .int .i64 e4, .bool e5, .bool e6, .bool e7] 55)).alloc (.cells #[.int .i64 1, .int .i64 xop, .int .i64 3, .bool xar, .int .i64 xan, .bool xbr, .int .i64 xbn, .string xname, .int .i64 xt] 53)).heap[qq]? = w.heap[qq]?) := ⟨bb.block⟩
  clear bb hb
  generalize (w.alloc (.cells #[.int .i64 e0, .int .i64 e1, .int .i64 e2, .int .i64 e3, .int .i64 e4, .bool e5, .bool e6, .bool e7] 55)).alloc (.cells #[.int .i64 1, .int .i64 xop, .int .i64 3, .bool xar, .int .i64 xan, .bool xbr, .int .i64 xbn, .string xname, .int .i64 xt] 53) = w2 at *
  have Y4 := fun j => cell_of_row w2 w.heap.size j _ _ _ XE
  have Y5 := fun j => cell_of_row w2 (w.heap.size + 1) j _ _ _ XX
  have YB := fun j => cell_of_row w2 b j _ _ _ XC
  have FB := fun j => frozen_of_row w2 b j _ _ XC
  have KC := Kept.mk XC
  have XE2 := Kept.mk XE
  simp only [Cnf.cs] at YB
  clear XE XX XC
  go_upto_region 6 with (fail)
  go_region
  go_wp2_with fail
  refine q0C _ [] Try.results66 .nil rfl ?_
  refine ⟨rfl, ⟨⟨r0, r1, r2, e1, ⟨mA, mN, mC⟩, ⟨sA, sN, sC⟩, pc⟩, ⟨bA, bN, bC⟩, ⟨qA, qN, qC⟩, fin⟩, heap_setCell_same _ b 3 _ _ _ KC.out, ?_, (W2.out.setCell (p := ⟨b, 3, none⟩) (Nat.le_refl _) _).drew, fun k hk hne => (heap_setCell_other w2 ⟨b, 3, none⟩ k _ (by first | exact hne | exact Ne.symm hne)).trans (WF.out k (by omega))⟩
  refine CfOwn.past (w := w2.setCell ⟨b, 3, none⟩ (.int .i64 e1)) ?_ (Below.refl _ _).drew
  refine CfOwn.far ?_ (by exact hbB) _
  exact ⟨⟨HO.out.st.r0, HO.out.st.r1, HO.out.st.r2, rfl, HO.out.st.mem, HO.out.st.stack, HO.out.st.pc, HO.out.st.dj⟩, HO.out.buf, HO.out.rsb, HO.out.fin, HO.out.djb, HO.out.djq, HO.out.djx⟩
 ·have bb := (q00 w (.cells #[.int .i64 e0, .int .i64 e1, .int .i64 e2, .int .i64 e3, .int .i64 e4, .bool e5, .bool e6, .bool e7] 55)).alloc (by simp) (.cells #[.int .i64 2, .int .i64 xop, .int .i64 0, .bool xar, .int .i64 xan, .bool xbr, .int .i64 xbn, .string xname, .int .i64 xt] 53)
  have XE := q01 (heap_alloc_new w (.cells #[.int .i64 e0, .int .i64 e1, .int .i64 e2, .int .i64 e3, .int .i64 e4, .bool e5, .bool e6, .bool e7] 55)) (q00 _ (.cells #[.int .i64 2, .int .i64 xop, .int .i64 0, .bool xar, .int .i64 xan, .bool xbr, .int .i64 xbn, .string xname, .int .i64 xt] 53))
  have XX := heap_alloc2_new w (.cells #[.int .i64 e0, .int .i64 e1, .int .i64 e2, .int .i64 e3, .int .i64 e4, .bool e5, .bool e6, .bool e7] 55) (.cells #[.int .i64 2, .int .i64 xop, .int .i64 0, .bool xar, .int .i64 xan, .bool xbr, .int .i64 xbn, .string xname, .int .i64 xt] 53)
  have XC := q01 (q01 hb (q00 w (.cells #[.int .i64 e0, .int .i64 e1, .int .i64 e2, .int .i64 e3, .int .i64 e4, .bool e5, .bool e6, .bool e7] 55))) (q00 _ (.cells #[.int .i64 2, .int .i64 xop, .int .i64 0, .bool xar, .int .i64 xan, .bool xbr, .int .i64 xbn, .string xname, .int .i64 xt] 53))
  have SZ : ((w.alloc (.cells #[.int .i64 e0, .int .i64 e1, .int .i64 e2, .int .i64 e3, .int .i64 e4, .bool e5, .bool e6, .bool e7] 55)).alloc (.cells #[.int .i64 2, .int .i64 xop, .int .i64 0, .bool xar, .int .i64 xan, .bool xbr, .int .i64 xbn, .string xname, .int .i64 xt] 53)).heap.size = w.heap.size + 2 := by simp
  go_enter Try.func66, Try.ntmps66
  go_upto_region 1 with (fail)
  have HO := Kept.mk (HO.out.past bb)
  have W2 := Kept.mk (bb.mono (Nat.le_of_lt hs))
  have WF : Kept (∀ qq, qq < w.heap.size → ((w.alloc (.cells #[.int .i64 e0, .int .i64 e1, .int .i64 e2, .int .i64 e3, .int .i64 e4, .bool e5, .bool e6, .bool e7] 55)).alloc (.cells #[.int .i64 2, .int .i64 xop, .int .i64 0, .bool xar, .int .i64 xan, .bool xbr, .int .i64 xbn, .string xname, .int .i64 xt] 53)).heap[qq]? = w.heap[qq]?) := ⟨bb.block⟩
  clear bb hb
  generalize (w.alloc (.cells #[.int .i64 e0, .int .i64 e1, .int .i64 e2, .int .i64 e3, .int .i64 e4, .bool e5, .bool e6, .bool e7] 55)).alloc (.cells #[.int .i64 2, .int .i64 xop, .int .i64 0, .bool xar, .int .i64 xan, .bool xbr, .int .i64 xbn, .string xname, .int .i64 xt] 53) = w2 at *
  have Y4 := fun j => cell_of_row w2 w.heap.size j _ _ _ XE
  have Y5 := fun j => cell_of_row w2 (w.heap.size + 1) j _ _ _ XX
  have YB := fun j => cell_of_row w2 b j _ _ _ XC
  have FB := fun j => frozen_of_row w2 b j _ _ XC
  have KC := Kept.mk XC
  have XE2 := Kept.mk XE
  simp only [Cnf.cs] at YB
  clear XE XX XC
  go_upto_region 6 with (fail)
  go_region
  go_wp2_with fail
  refine q0C _ [] Try.results66 .nil rfl ?_
  refine ⟨rfl, ⟨⟨e1, r1, r2, r3, ⟨mA, mN, mC⟩, ⟨sA, sN, sC⟩, pc⟩, ⟨bA, bN, bC⟩, ⟨qA, qN, qC⟩, fin⟩, heap_setCell_same _ b 0 _ _ _ KC.out, ?_, (W2.out.setCell (p := ⟨b, 0, none⟩) (Nat.le_refl _) _).drew, fun k hk hne => (heap_setCell_other w2 ⟨b, 0, none⟩ k _ (by first | exact hne | exact Ne.symm hne)).trans (WF.out k (by omega))⟩
  refine CfOwn.past (w := w2.setCell ⟨b, 0, none⟩ (.int .i64 e1)) ?_ (Below.refl _ _).drew
  refine CfOwn.far ?_ (by exact hbB) _
  exact ⟨⟨rfl, HO.out.st.r1, HO.out.st.r2, HO.out.st.r3, HO.out.st.mem, HO.out.st.stack, HO.out.st.pc, HO.out.st.dj⟩, HO.out.buf, HO.out.rsb, HO.out.fin, HO.out.djb, HO.out.djq, HO.out.djx⟩
 ·have bb := (q00 w (.cells #[.int .i64 e0, .int .i64 e1, .int .i64 e2, .int .i64 e3, .int .i64 e4, .bool e5, .bool e6, .bool e7] 55)).alloc (by simp) (.cells #[.int .i64 2, .int .i64 xop, .int .i64 1, .bool xar, .int .i64 xan, .bool xbr, .int .i64 xbn, .string xname, .int .i64 xt] 53)
  have XE := q01 (heap_alloc_new w (.cells #[.int .i64 e0, .int .i64 e1, .int .i64 e2, .int .i64 e3, .int .i64 e4, .bool e5, .bool e6, .bool e7] 55)) (q00 _ (.cells #[.int .i64 2, .int .i64 xop, .int .i64 1, .bool xar, .int .i64 xan, .bool xbr, .int .i64 xbn, .string xname, .int .i64 xt] 53))
  have XX := heap_alloc2_new w (.cells #[.int .i64 e0, .int .i64 e1, .int .i64 e2, .int .i64 e3, .int .i64 e4, .bool e5, .bool e6, .bool e7] 55) (.cells #[.int .i64 2, .int .i64 xop, .int .i64 1, .bool xar, .int .i64 xan, .bool xbr, .int .i64 xbn, .string xname, .int .i64 xt] 53)
  have XC := q01 (q01 hb (q00 w (.cells #[.int .i64 e0, .int .i64 e1, .int .i64 e2, .int .i64 e3, .int .i64 e4, .bool e5, .bool e6, .bool e7] 55))) (q00 _ (.cells #[.int .i64 2, .int .i64 xop, .int .i64 1, .bool xar, .int .i64 xan, .bool xbr, .int .i64 xbn, .string xname, .int .i64 xt] 53))
  have SZ : ((w.alloc (.cells #[.int .i64 e0, .int .i64 e1, .int .i64 e2, .int .i64 e3, .int .i64 e4, .bool e5, .bool e6, .bool e7] 55)).alloc (.cells #[.int .i64 2, .int .i64 xop, .int .i64 1, .bool xar, .int .i64 xan, .bool xbr, .int .i64 xbn, .string xname, .int .i64 xt] 53)).heap.size = w.heap.size + 2 := by simp
  go_enter Try.func66, Try.ntmps66
  go_upto_region 1 with (fail)
  have HO := Kept.mk (HO.out.past bb)
  have W2 := Kept.mk (bb.mono (Nat.le_of_lt hs))
  have WF : Kept (∀ qq, qq < w.heap.size → ((w.alloc (.cells #[.int .i64 e0, .int .i64 e1, .int .i64 e2, .int .i64 e3, .int .i64 e4, .bool e5, .bool e6, .bool e7] 55)).alloc (.cells #[.int .i64 2, .int .i64 xop, .int .i64 1, .bool xar, .int .i64 xan, .bool xbr, .int .i64 xbn, .string xname, .int .i64 xt] 53)).heap[qq]? = w.heap[qq]?) := ⟨bb.block⟩
  clear bb hb
  generalize (w.alloc (.cells #[.int .i64 e0, .int .i64 e1, .int .i64 e2, .int .i64 e3, .int .i64 e4, .bool e5, .bool e6, .bool e7] 55)).alloc (.cells #[.int .i64 2, .int .i64 xop, .int .i64 1, .bool xar, .int .i64 xan, .bool xbr, .int .i64 xbn, .string xname, .int .i64 xt] 53) = w2 at *
  have Y4 := fun j => cell_of_row w2 w.heap.size j _ _ _ XE
  have Y5 := fun j => cell_of_row w2 (w.heap.size + 1) j _ _ _ XX
  have YB := fun j => cell_of_row w2 b j _ _ _ XC
  have FB := fun j => frozen_of_row w2 b j _ _ XC
  have KC := Kept.mk XC
  have XE2 := Kept.mk XE
  simp only [Cnf.cs] at YB
  clear XE XX XC
  go_upto_region 6 with (fail)
  go_region
  go_wp2_with fail
  refine q0C _ [] Try.results66 .nil rfl ?_
  refine ⟨rfl, ⟨⟨r0, e1, r2, r3, ⟨mA, mN, mC⟩, ⟨sA, sN, sC⟩, pc⟩, ⟨bA, bN, bC⟩, ⟨qA, qN, qC⟩, fin⟩, heap_setCell_same _ b 1 _ _ _ KC.out, ?_, (W2.out.setCell (p := ⟨b, 1, none⟩) (Nat.le_refl _) _).drew, fun k hk hne => (heap_setCell_other w2 ⟨b, 1, none⟩ k _ (by first | exact hne | exact Ne.symm hne)).trans (WF.out k (by omega))⟩
  refine CfOwn.past (w := w2.setCell ⟨b, 1, none⟩ (.int .i64 e1)) ?_ (Below.refl _ _).drew
  refine CfOwn.far ?_ (by exact hbB) _
  exact ⟨⟨HO.out.st.r0, rfl, HO.out.st.r2, HO.out.st.r3, HO.out.st.mem, HO.out.st.stack, HO.out.st.pc, HO.out.st.dj⟩, HO.out.buf, HO.out.rsb, HO.out.fin, HO.out.djb, HO.out.djq, HO.out.djx⟩
 ·have bb := (q00 w (.cells #[.int .i64 e0, .int .i64 e1, .int .i64 e2, .int .i64 e3, .int .i64 e4, .bool e5, .bool e6, .bool e7] 55)).alloc (by simp) (.cells #[.int .i64 2, .int .i64 xop, .int .i64 2, .bool xar, .int .i64 xan, .bool xbr, .int .i64 xbn, .string xname, .int .i64 xt] 53)
  have XE := q01 (heap_alloc_new w (.cells #[.int .i64 e0, .int .i64 e1, .int .i64 e2, .int .i64 e3, .int .i64 e4, .bool e5, .bool e6, .bool e7] 55)) (q00 _ (.cells #[.int .i64 2, .int .i64 xop, .int .i64 2, .bool xar, .int .i64 xan, .bool xbr, .int .i64 xbn, .string xname, .int .i64 xt] 53))
  have XX := heap_alloc2_new w (.cells #[.int .i64 e0, .int .i64 e1, .int .i64 e2, .int .i64 e3, .int .i64 e4, .bool e5, .bool e6, .bool e7] 55) (.cells #[.int .i64 2, .int .i64 xop, .int .i64 2, .bool xar, .int .i64 xan, .bool xbr, .int .i64 xbn, .string xname, .int .i64 xt] 53)
  have XC := q01 (q01 hb (q00 w (.cells #[.int .i64 e0, .int .i64 e1, .int .i64 e2, .int .i64 e3, .int .i64 e4, .bool e5, .bool e6, .bool e7] 55))) (q00 _ (.cells #[.int .i64 2, .int .i64 xop, .int .i64 2, .bool xar, .int .i64 xan, .bool xbr, .int .i64 xbn, .string xname, .int .i64 xt] 53))
  have SZ : ((w.alloc (.cells #[.int .i64 e0, .int .i64 e1, .int .i64 e2, .int .i64 e3, .int .i64 e4, .bool e5, .bool e6, .bool e7] 55)).alloc (.cells #[.int .i64 2, .int .i64 xop, .int .i64 2, .bool xar, .int .i64 xan, .bool xbr, .int .i64 xbn, .string xname, .int .i64 xt] 53)).heap.size = w.heap.size + 2 := by simp
  go_enter Try.func66, Try.ntmps66
  go_upto_region 1 with (fail)
  have HO := Kept.mk (HO.out.past bb)
  have W2 := Kept.mk (bb.mono (Nat.le_of_lt hs))
  have WF : Kept (∀ qq, qq < w.heap.size → ((w.alloc (.cells #[.int .i64 e0, .int .i64 e1, .int .i64 e2, .int .i64 e3, .int .i64 e4, .bool e5, .bool e6, .bool e7] 55)).alloc (.cells #[.int .i64 2, .int .i64 xop, .int .i64 2, .bool xar, .int .i64 xan, .bool xbr, .int .i64 xbn, .string xname, .int .i64 xt] 53)).heap[qq]? = w.heap[qq]?) := ⟨bb.block⟩
  clear bb hb
  generalize (w.alloc (.cells #[.int .i64 e0, .int .i64 e1, .int .i64 e2, .int .i64 e3, .int .i64 e4, .bool e5, .bool e6, .bool e7] 55)).alloc (.cells #[.int .i64 2, .int .i64 xop, .int .i64 2, .bool xar, .int .i64 xan, .bool xbr, .int .i64 xbn, .string xname, .int .i64 xt] 53) = w2 at *
  have Y4 := fun j => cell_of_row w2 w.heap.size j _ _ _ XE
  have Y5 := fun j => cell_of_row w2 (w.heap.size + 1) j _ _ _ XX
  have YB := fun j => cell_of_row w2 b j _ _ _ XC
  have FB := fun j => frozen_of_row w2 b j _ _ XC
  have KC := Kept.mk XC
  have XE2 := Kept.mk XE
  simp only [Cnf.cs] at YB
  clear XE XX XC
  go_upto_region 6 with (fail)
  go_region
  go_wp2_with fail
  refine q0C _ [] Try.results66 .nil rfl ?_
  refine ⟨rfl, ⟨⟨r0, r1, e1, r3, ⟨mA, mN, mC⟩, ⟨sA, sN, sC⟩, pc⟩, ⟨bA, bN, bC⟩, ⟨qA, qN, qC⟩, fin⟩, heap_setCell_same _ b 2 _ _ _ KC.out, ?_, (W2.out.setCell (p := ⟨b, 2, none⟩) (Nat.le_refl _) _).drew, fun k hk hne => (heap_setCell_other w2 ⟨b, 2, none⟩ k _ (by first | exact hne | exact Ne.symm hne)).trans (WF.out k (by omega))⟩
  refine CfOwn.past (w := w2.setCell ⟨b, 2, none⟩ (.int .i64 e1)) ?_ (Below.refl _ _).drew
  refine CfOwn.far ?_ (by exact hbB) _
  exact ⟨⟨HO.out.st.r0, HO.out.st.r1, rfl, HO.out.st.r3, HO.out.st.mem, HO.out.st.stack, HO.out.st.pc, HO.out.st.dj⟩, HO.out.buf, HO.out.rsb, HO.out.fin, HO.out.djb, HO.out.djq, HO.out.djx⟩
 ·have bb := (q00 w (.cells #[.int .i64 e0, .int .i64 e1, .int .i64 e2, .int .i64 e3, .int .i64 e4, .bool e5, .bool e6, .bool e7] 55)).alloc (by simp) (.cells #[.int .i64 2, .int .i64 xop, .int .i64 3, .bool xar, .int .i64 xan, .bool xbr, .int .i64 xbn, .string xname, .int .i64 xt] 53)
  have XE := q01 (heap_alloc_new w (.cells #[.int .i64 e0, .int .i64 e1, .int .i64 e2, .int .i64 e3, .int .i64 e4, .bool e5, .bool e6, .bool e7] 55)) (q00 _ (.cells #[.int .i64 2, .int .i64 xop, .int .i64 3, .bool xar, .int .i64 xan, .bool xbr, .int .i64 xbn, .string xname, .int .i64 xt] 53))
  have XX := heap_alloc2_new w (.cells #[.int .i64 e0, .int .i64 e1, .int .i64 e2, .int .i64 e3, .int .i64 e4, .bool e5, .bool e6, .bool e7] 55) (.cells #[.int .i64 2, .int .i64 xop, .int .i64 3, .bool xar, .int .i64 xan, .bool xbr, .int .i64 xbn, .string xname, .int .i64 xt] 53)
  have XC := q01 (q01 hb (q00 w (.cells #[.int .i64 e0, .int .i64 e1, .int .i64 e2, .int .i64 e3, .int .i64 e4, .bool e5, .bool e6, .bool e7] 55))) (q00 _ (.cells #[.int .i64 2, .int .i64 xop, .int .i64 3, .bool xar, .int .i64 xan, .bool xbr, .int .i64 xbn, .string xname, .int .i64 xt] 53))
  have SZ : ((w.alloc (.cells #[.int .i64 e0, .int .i64 e1, .int .i64 e2, .int .i64 e3, .int .i64 e4, .bool e5, .bool e6, .bool e7] 55)).alloc (.cells #[.int .i64 2, .int .i64 xop, .int .i64 3, .bool xar, .int .i64 xan, .bool xbr, .int .i64 xbn, .string xname, .int .i64 xt] 53)).heap.size = w.heap.size + 2 := by simp
  go_enter Try.func66, Try.ntmps66
  go_upto_region 1 with (fail)
  have HO := Kept.mk (HO.out.past bb)
  have W2 := Kept.mk (bb.mono (Nat.le_of_lt hs))
  have WF : Kept (∀ qq, qq < w.heap.size → ((w.alloc (.cells #[.int .i64 e0, .int .i64 e1, .int .i64 e2, .int .i64 e3, .int .i64 e4, .bool e5, .bool e6, .bool e7] 55)).alloc (.cells #[.int .i64 2, .int .i64 xop, .int .i64 3, .bool xar, .int .i64 xan, .bool xbr, .int .i64 xbn, .string xname, .int .i64 xt] 53)).heap[qq]? = w.heap[qq]?) := ⟨bb.block⟩
  clear bb hb
  generalize (w.alloc (.cells #[.int .i64 e0, .int .i64 e1, .int .i64 e2, .int .i64 e3, .int .i64 e4, .bool e5, .bool e6, .bool e7] 55)).alloc (.cells #[.int .i64 2, .int .i64 xop, .int .i64 3, .bool xar, .int .i64 xan, .bool xbr, .int .i64 xbn, .string xname, .int .i64 xt] 53) = w2 at *
  have Y4 := fun j => cell_of_row w2 w.heap.size j _ _ _ XE
  have Y5 := fun j => cell_of_row w2 (w.heap.size + 1) j _ _ _ XX
  have YB := fun j => cell_of_row w2 b j _ _ _ XC
  have FB := fun j => frozen_of_row w2 b j _ _ XC
  have KC := Kept.mk XC
  have XE2 := Kept.mk XE
  simp only [Cnf.cs] at YB
  clear XE XX XC
  go_upto_region 6 with (fail)
  go_region
  go_wp2_with fail
  refine q0C _ [] Try.results66 .nil rfl ?_
  refine ⟨rfl, ⟨⟨r0, r1, r2, e1, ⟨mA, mN, mC⟩, ⟨sA, sN, sC⟩, pc⟩, ⟨bA, bN, bC⟩, ⟨qA, qN, qC⟩, fin⟩, heap_setCell_same _ b 3 _ _ _ KC.out, ?_, (W2.out.setCell (p := ⟨b, 3, none⟩) (Nat.le_refl _) _).drew, fun k hk hne => (heap_setCell_other w2 ⟨b, 3, none⟩ k _ (by first | exact hne | exact Ne.symm hne)).trans (WF.out k (by omega))⟩
  refine CfOwn.past (w := w2.setCell ⟨b, 3, none⟩ (.int .i64 e1)) ?_ (Below.refl _ _).drew
  refine CfOwn.far ?_ (by exact hbB) _
  exact ⟨⟨HO.out.st.r0, HO.out.st.r1, HO.out.st.r2, rfl, HO.out.st.mem, HO.out.st.stack, HO.out.st.pc, HO.out.st.dj⟩, HO.out.buf, HO.out.rsb, HO.out.fin, HO.out.djb, HO.out.djq, HO.out.djx⟩
 ·have bb := (q00 w (.cells #[.int .i64 e0, .int .i64 e1, .int .i64 e2, .int .i64 e3, .int .i64 e4, .bool e5, .bool e6, .bool e7] 55)).alloc (by simp) (.cells #[.int .i64 4, .int .i64 xop, .int .i64 0, .bool xar, .int .i64 xan, .bool xbr, .int .i64 xbn, .string xname, .int .i64 xt] 53)
  have XE := q01 (heap_alloc_new w (.cells #[.int .i64 e0, .int .i64 e1, .int .i64 e2, .int .i64 e3, .int .i64 e4, .bool e5, .bool e6, .bool e7] 55)) (q00 _ (.cells #[.int .i64 4, .int .i64 xop, .int .i64 0, .bool xar, .int .i64 xan, .bool xbr, .int .i64 xbn, .string xname, .int .i64 xt] 53))
  have XX := heap_alloc2_new w (.cells #[.int .i64 e0, .int .i64 e1, .int .i64 e2, .int .i64 e3, .int .i64 e4, .bool e5, .bool e6, .bool e7] 55) (.cells #[.int .i64 4, .int .i64 xop, .int .i64 0, .bool xar, .int .i64 xan, .bool xbr, .int .i64 xbn, .string xname, .int .i64 xt] 53)
  have XC := q01 (q01 hb (q00 w (.cells #[.int .i64 e0, .int .i64 e1, .int .i64 e2, .int .i64 e3, .int .i64 e4, .bool e5, .bool e6, .bool e7] 55))) (q00 _ (.cells #[.int .i64 4, .int .i64 xop, .int .i64 0, .bool xar, .int .i64 xan, .bool xbr, .int .i64 xbn, .string xname, .int .i64 xt] 53))
  have SZ : ((w.alloc (.cells #[.int .i64 e0, .int .i64 e1, .int .i64 e2, .int .i64 e3, .int .i64 e4, .bool e5, .bool e6, .bool e7] 55)).alloc (.cells #[.int .i64 4, .int .i64 xop, .int .i64 0, .bool xar, .int .i64 xan, .bool xbr, .int .i64 xbn, .string xname, .int .i64 xt] 53)).heap.size = w.heap.size + 2 := by simp
  go_enter Try.func66, Try.ntmps66
  go_upto_region 1 with (fail)
  have HO := Kept.mk (HO.out.past bb)
  have W2 := Kept.mk (bb.mono (Nat.le_of_lt hs))
  have WF : Kept (∀ qq, qq < w.heap.size → ((w.alloc (.cells #[.int .i64 e0, .int .i64 e1, .int .i64 e2, .int .i64 e3, .int .i64 e4, .bool e5, .bool e6, .bool e7] 55)).alloc (.cells #[.int .i64 4, .int .i64 xop, .int .i64 0, .bool xar, .int .i64 xan, .bool xbr, .int .i64 xbn, .string xname, .int .i64 xt] 53)).heap[qq]? = w.heap[qq]?) := ⟨bb.block⟩
  clear bb hb
  generalize (w.alloc (.cells #[.int .i64 e0, .int .i64 e1, .int .i64 e2, .int .i64 e3, .int .i64 e4, .bool e5, .bool e6, .bool e7] 55)).alloc (.cells #[.int .i64 4, .int .i64 xop, .int .i64 0, .bool xar, .int .i64 xan, .bool xbr, .int .i64 xbn, .string xname, .int .i64 xt] 53) = w2 at *
  have Y4 := fun j => cell_of_row w2 w.heap.size j _ _ _ XE
  have Y5 := fun j => cell_of_row w2 (w.heap.size + 1) j _ _ _ XX
  have YB := fun j => cell_of_row w2 b j _ _ _ XC
  have FB := fun j => frozen_of_row w2 b j _ _ XC
  have KC := Kept.mk XC
  have XE2 := Kept.mk XE
  simp only [Cnf.cs] at YB
  clear XE XX XC
  go_upto_region 6 with (fail)
  go_region
  go_wp2_with fail
  refine q0C _ [] Try.results66 .nil rfl ?_
  refine ⟨rfl, ⟨⟨e1, r1, r2, r3, ⟨mA, mN, mC⟩, ⟨sA, sN, sC⟩, pc⟩, ⟨bA, bN, bC⟩, ⟨qA, qN, qC⟩, fin⟩, heap_setCell_same _ b 0 _ _ _ KC.out, ?_, (W2.out.setCell (p := ⟨b, 0, none⟩) (Nat.le_refl _) _).drew, fun k hk hne => (heap_setCell_other w2 ⟨b, 0, none⟩ k _ (by first | exact hne | exact Ne.symm hne)).trans (WF.out k (by omega))⟩
  refine CfOwn.past (w := w2.setCell ⟨b, 0, none⟩ (.int .i64 e1)) ?_ (Below.refl _ _).drew
  refine CfOwn.far ?_ (by exact hbB) _
  exact ⟨⟨rfl, HO.out.st.r1, HO.out.st.r2, HO.out.st.r3, HO.out.st.mem, HO.out.st.stack, HO.out.st.pc, HO.out.st.dj⟩, HO.out.buf, HO.out.rsb, HO.out.fin, HO.out.djb, HO.out.djq, HO.out.djx⟩
 ·have bb := (q00 w (.cells #[.int .i64 e0, .int .i64 e1, .int .i64 e2, .int .i64 e3, .int .i64 e4, .bool e5, .bool e6, .bool e7] 55)).alloc (by simp) (.cells #[.int .i64 4, .int .i64 xop, .int .i64 1, .bool xar, .int .i64 xan, .bool xbr, .int .i64 xbn, .string xname, .int .i64 xt] 53)
  have XE := q01 (heap_alloc_new w (.cells #[.int .i64 e0, .int .i64 e1, .int .i64 e2, .int .i64 e3, .int .i64 e4, .bool e5, .bool e6, .bool e7] 55)) (q00 _ (.cells #[.int .i64 4, .int .i64 xop, .int .i64 1, .bool xar, .int .i64 xan, .bool xbr, .int .i64 xbn, .string xname, .int .i64 xt] 53))
  have XX := heap_alloc2_new w (.cells #[.int .i64 e0, .int .i64 e1, .int .i64 e2, .int .i64 e3, .int .i64 e4, .bool e5, .bool e6, .bool e7] 55) (.cells #[.int .i64 4, .int .i64 xop, .int .i64 1, .bool xar, .int .i64 xan, .bool xbr, .int .i64 xbn, .string xname, .int .i64 xt] 53)
  have XC := q01 (q01 hb (q00 w (.cells #[.int .i64 e0, .int .i64 e1, .int .i64 e2, .int .i64 e3, .int .i64 e4, .bool e5, .bool e6, .bool e7] 55))) (q00 _ (.cells #[.int .i64 4, .int .i64 xop, .int .i64 1, .bool xar, .int .i64 xan, .bool xbr, .int .i64 xbn, .string xname, .int .i64 xt] 53))
  have SZ : ((w.alloc (.cells #[.int .i64 e0, .int .i64 e1, .int .i64 e2, .int .i64 e3, .int .i64 e4, .bool e5, .bool e6, .bool e7] 55)).alloc (.cells #[.int .i64 4, .int .i64 xop, .int .i64 1, .bool xar, .int .i64 xan, .bool xbr, .int .i64 xbn, .string xname, .int .i64 xt] 53)).heap.size = w.heap.size + 2 := by simp
  go_enter Try.func66, Try.ntmps66
  go_upto_region 1 with (fail)
  have HO := Kept.mk (HO.out.past bb)
  have W2 := Kept.mk (bb.mono (Nat.le_of_lt hs))
  have WF : Kept (∀ qq, qq < w.heap.size → ((w.alloc (.cells #[.int .i64 e0, .int .i64 e1, .int .i64 e2, .int .i64 e3, .int .i64 e4, .bool e5, .bool e6, .bool e7] 55)).alloc (.cells #[.int .i64 4, .int .i64 xop, .int .i64 1, .bool xar, .int .i64 xan, .bool xbr, .int .i64 xbn, .string xname, .int .i64 xt] 53)).heap[qq]? = w.heap[qq]?) := ⟨bb.block⟩
  clear bb hb
  generalize (w.alloc (.cells #[.int .i64 e0, .int .i64 e1, .int .i64 e2, .int .i64 e3, .int .i64 e4, .bool e5, .bool e6, .bool e7] 55)).alloc (.cells #[.int .i64 4, .int .i64 xop, .int .i64 1, .bool xar, .int .i64 xan, .bool xbr, .int .i64 xbn, .string xname, .int .i64 xt] 53) = w2 at *
  have Y4 := fun j => cell_of_row w2 w.heap.size j _ _ _ XE
  have Y5 := fun j => cell_of_row w2 (w.heap.size + 1) j _ _ _ XX
  have YB := fun j => cell_of_row w2 b j _ _ _ XC
  have FB := fun j => frozen_of_row w2 b j _ _ XC
  have KC := Kept.mk XC
  have XE2 := Kept.mk XE
  simp only [Cnf.cs] at YB
  clear XE XX XC
  go_upto_region 6 with (fail)
  go_region
  go_wp2_with fail
  refine q0C _ [] Try.results66 .nil rfl ?_
  refine ⟨rfl, ⟨⟨r0, e1, r2, r3, ⟨mA, mN, mC⟩, ⟨sA, sN, sC⟩, pc⟩, ⟨bA, bN, bC⟩, ⟨qA, qN, qC⟩, fin⟩, heap_setCell_same _ b 1 _ _ _ KC.out, ?_, (W2.out.setCell (p := ⟨b, 1, none⟩) (Nat.le_refl _) _).drew, fun k hk hne => (heap_setCell_other w2 ⟨b, 1, none⟩ k _ (by first | exact hne | exact Ne.symm hne)).trans (WF.out k (by omega))⟩
  refine CfOwn.past (w := w2.setCell ⟨b, 1, none⟩ (.int .i64 e1)) ?_ (Below.refl _ _).drew
  refine CfOwn.far ?_ (by exact hbB) _
  exact ⟨⟨HO.out.st.r0, rfl, HO.out.st.r2, HO.out.st.r3, HO.out.st.mem, HO.out.st.stack, HO.out.st.pc, HO.out.st.dj⟩, HO.out.buf, HO.out.rsb, HO.out.fin, HO.out.djb, HO.out.djq, HO.out.djx⟩
 ·have bb := (q00 w (.cells #[.int .i64 e0, .int .i64 e1, .int .i64 e2, .int .i64 e3, .int .i64 e4, .bool e5, .bool e6, .bool e7] 55)).alloc (by simp) (.cells #[.int .i64 4, .int .i64 xop, .int .i64 2, .bool xar, .int .i64 xan, .bool xbr, .int .i64 xbn, .string xname, .int .i64 xt] 53)
  have XE := q01 (heap_alloc_new w (.cells #[.int .i64 e0, .int .i64 e1, .int .i64 e2, .int .i64 e3, .int .i64 e4, .bool e5, .bool e6, .bool e7] 55)) (q00 _ (.cells #[.int .i64 4, .int .i64 xop, .int .i64 2, .bool xar, .int .i64 xan, .bool xbr, .int .i64 xbn, .string xname, .int .i64 xt] 53))
  have XX := heap_alloc2_new w (.cells #[.int .i64 e0, .int .i64 e1, .int .i64 e2, .int .i64 e3, .int .i64 e4, .bool e5, .bool e6, .bool e7] 55) (.cells #[.int .i64 4, .int .i64 xop, .int .i64 2, .bool xar, .int .i64 xan, .bool xbr, .int .i64 xbn, .string xname, .int .i64 xt] 53)
  have XC := q01 (q01 hb (q00 w (.cells #[.int .i64 e0, .int .i64 e1, .int .i64 e2, .int .i64 e3, .int .i64 e4, .bool e5, .bool e6, .bool e7] 55))) (q00 _ (.cells #[.int .i64 4, .int .i64 xop, .int .i64 2, .bool xar, .int .i64 xan, .bool xbr, .int .i64 xbn, .string xname, .int .i64 xt] 53))
  have SZ : ((w.alloc (.cells #[.int .i64 e0, .int .i64 e1, .int .i64 e2, .int .i64 e3, .int .i64 e4, .bool e5, .bool e6, .bool e7] 55)).alloc (.cells #[.int .i64 4, .int .i64 xop, .int .i64 2, .bool xar, .int .i64 xan, .bool xbr, .int .i64 xbn, .string xname, .int .i64 xt] 53)).heap.size = w.heap.size + 2 := by simp
  go_enter Try.func66, Try.ntmps66
  go_upto_region 1 with (fail)
  have HO := Kept.mk (HO.out.past bb)
  have W2 := Kept.mk (bb.mono (Nat.le_of_lt hs))
  have WF : Kept (∀ qq, qq < w.heap.size → ((w.alloc (.cells #[.int .i64 e0, .int .i64 e1, .int .i64 e2, .int .i64 e3, .int .i64 e4, .bool e5, .bool e6, .bool e7] 55)).alloc (.cells #[.int .i64 4, .int .i64 xop, .int .i64 2, .bool xar, .int .i64 xan, .bool xbr, .int .i64 xbn, .string xname, .int .i64 xt] 53)).heap[qq]? = w.heap[qq]?) := ⟨bb.block⟩
  clear bb hb
  generalize (w.alloc (.cells #[.int .i64 e0, .int .i64 e1, .int .i64 e2, .int .i64 e3, .int .i64 e4, .bool e5, .bool e6, .bool e7] 55)).alloc (.cells #[.int .i64 4, .int .i64 xop, .int .i64 2, .bool xar, .int .i64 xan, .bool xbr, .int .i64 xbn, .string xname, .int .i64 xt] 53) = w2 at *
  have Y4 := fun j => cell_of_row w2 w.heap.size j _ _ _ XE
  have Y5 := fun j => cell_of_row w2 (w.heap.size + 1) j _ _ _ XX
  have YB := fun j => cell_of_row w2 b j _ _ _ XC
  have FB := fun j => frozen_of_row w2 b j _ _ XC
  have KC := Kept.mk XC
  have XE2 := Kept.mk XE
  simp only [Cnf.cs] at YB
  clear XE XX XC
  go_upto_region 6 with (fail)
  go_region
  go_wp2_with fail
  refine q0C _ [] Try.results66 .nil rfl ?_
  refine ⟨rfl, ⟨⟨r0, r1, e1, r3, ⟨mA, mN, mC⟩, ⟨sA, sN, sC⟩, pc⟩, ⟨bA, bN, bC⟩, ⟨qA, qN, qC⟩, fin⟩, heap_setCell_same _ b 2 _ _ _ KC.out, ?_, (W2.out.setCell (p := ⟨b, 2, none⟩) (Nat.le_refl _) _).drew, fun k hk hne => (heap_setCell_other w2 ⟨b, 2, none⟩ k _ (by first | exact hne | exact Ne.symm hne)).trans (WF.out k (by omega))⟩
  refine CfOwn.past (w := w2.setCell ⟨b, 2, none⟩ (.int .i64 e1)) ?_ (Below.refl _ _).drew
  refine CfOwn.far ?_ (by exact hbB) _
  exact ⟨⟨HO.out.st.r0, HO.out.st.r1, rfl, HO.out.st.r3, HO.out.st.mem, HO.out.st.stack, HO.out.st.pc, HO.out.st.dj⟩, HO.out.buf, HO.out.rsb, HO.out.fin, HO.out.djb, HO.out.djq, HO.out.djx⟩
 ·have bb := (q00 w (.cells #[.int .i64 e0, .int .i64 e1, .int .i64 e2, .int .i64 e3, .int .i64 e4, .bool e5, .bool e6, .bool e7] 55)).alloc (by simp) (.cells #[.int .i64 4, .int .i64 xop, .int .i64 3, .bool xar, .int .i64 xan, .bool xbr, .int .i64 xbn, .string xname, .int .i64 xt] 53)
  have XE := q01 (heap_alloc_new w (.cells #[.int .i64 e0, .int .i64 e1, .int .i64 e2, .int .i64 e3, .int .i64 e4, .bool e5, .bool e6, .bool e7] 55)) (q00 _ (.cells #[.int .i64 4, .int .i64 xop, .int .i64 3, .bool xar, .int .i64 xan, .bool xbr, .int .i64 xbn, .string xname, .int .i64 xt] 53))
  have XX := heap_alloc2_new w (.cells #[.int .i64 e0, .int .i64 e1, .int .i64 e2, .int .i64 e3, .int .i64 e4, .bool e5, .bool e6, .bool e7] 55) (.cells #[.int .i64 4, .int .i64 xop, .int .i64 3, .bool xar, .int .i64 xan, .bool xbr, .int .i64 xbn, .string xname, .int .i64 xt] 53)
  have XC := q01 (q01 hb (q00 w (.cells #[.int .i64 e0, .int .i64 e1, .int .i64 e2, .int .i64 e3, .int .i64 e4, .bool e5, .bool e6, .bool e7] 55))) (q00 _ (.cells #[.int .i64 4, .int .i64 xop, .int .i64 3, .bool xar, .int .i64 xan, .bool xbr, .int .i64 xbn, .string xname, .int .i64 xt] 53))
  have SZ : ((w.alloc (.cells #[.int .i64 e0, .int .i64 e1, .int .i64 e2, .int .i64 e3, .int .i64 e4, .bool e5, .bool e6, .bool e7] 55)).alloc (.cells #[.int .i64 4, .int .i64 xop, .int .i64 3, .bool xar, .int .i64 xan, .bool xbr, .int .i64 xbn, .string xname, .int .i64 xt] 53)).heap.size = w.heap.size + 2 := by simp
  go_enter Try.func66, Try.ntmps66
  go_upto_region 1 with (fail)
  have HO := Kept.mk (HO.out.past bb)
  have W2 := Kept.mk (bb.mono (Nat.le_of_lt hs))
  have WF : Kept (∀ qq, qq < w.heap.size → ((w.alloc (.cells #[.int .i64 e0, .int .i64 e1, .int .i64 e2, .int .i64 e3, .int .i64 e4, .bool e5, .bool e6, .bool e7] 55)).alloc (.cells #[.int .i64 4, .int .i64 xop, .int .i64 3, .bool xar, .int .i64 xan, .bool xbr, .int .i64 xbn, .string xname, .int .i64 xt] 53)).heap[qq]? = w.heap[qq]?) := ⟨bb.block⟩
  clear bb hb
  generalize (w.alloc (.cells #[.int .i64 e0, .int .i64 e1, .int .i64 e2, .int .i64 e3, .int .i64 e4, .bool e5, .bool e6, .bool e7] 55)).alloc (.cells #[.int .i64 4, .int .i64 xop, .int .i64 3, .bool xar, .int .i64 xan, .bool xbr, .int .i64 xbn, .string xname, .int .i64 xt] 53) = w2 at *
  have Y4 := fun j => cell_of_row w2 w.heap.size j _ _ _ XE
  have Y5 := fun j => cell_of_row w2 (w.heap.size + 1) j _ _ _ XX
  have YB := fun j => cell_of_row w2 b j _ _ _ XC
  have FB := fun j => frozen_of_row w2 b j _ _ XC
  have KC := Kept.mk XC
  have XE2 := Kept.mk XE
  simp only [Cnf.cs] at YB
  clear XE XX XC
  go_upto_region 6 with (fail)
  go_region
  go_wp2_with fail
  refine q0C _ [] Try.results66 .nil rfl ?_
  refine ⟨rfl, ⟨⟨r0, r1, r2, e1, ⟨mA, mN, mC⟩, ⟨sA, sN, sC⟩, pc⟩, ⟨bA, bN, bC⟩, ⟨qA, qN, qC⟩, fin⟩, heap_setCell_same _ b 3 _ _ _ KC.out, ?_, (W2.out.setCell (p := ⟨b, 3, none⟩) (Nat.le_refl _) _).drew, fun k hk hne => (heap_setCell_other w2 ⟨b, 3, none⟩ k _ (by first | exact hne | exact Ne.symm hne)).trans (WF.out k (by omega))⟩
  refine CfOwn.past (w := w2.setCell ⟨b, 3, none⟩ (.int .i64 e1)) ?_ (Below.refl _ _).drew
  refine CfOwn.far ?_ (by exact hbB) _
  exact ⟨⟨HO.out.st.r0, HO.out.st.r1, HO.out.st.r2, rfl, HO.out.st.mem, HO.out.st.stack, HO.out.st.pc, HO.out.st.dj⟩, HO.out.buf, HO.out.rsb, HO.out.fin, HO.out.djb, HO.out.djq, HO.out.djx⟩
set_option maxRecDepth 100000 in
set_option maxHeartbeats 1600000 in
theorem pcommit_store (b B : Nat) (c : Cnf) (m : Conf) (e : Ent) (x : Inst) (w : World) (hb : w.heap[b]? = some (.cells c.cs.toArray 41 (0, 0))) (hbB : b < B) (hB : B ≤ w.heap.size) (ho : CfOwn w B c m) (hk : x.kind = 3) (ha : 0 ≤ e.addr ∧ e.addr < m.st.mem.length) :
  Calls Try.prog 66 #[.pointer (some ⟨b, 0, none⟩), e.v, x.v] w (PCom b B ({ m with st := { m.st with mem := m.st.mem.set e.addr.toNat e.val } }) w) := by
 have HO := Kept.mk ho
 have hs : b < w.heap.size := by omega
 obtain ⟨⟨r0, r1, r2, r3, ⟨mA, mN, mC⟩, ⟨sA, sN, sC⟩, pc⟩, ⟨bA, bN, bC⟩, ⟨qA, qN, qC⟩, fin⟩ := c
 obtain ⟨e0, e1, e2, e3, e4, e5, e6, e7⟩ := e
 obtain ⟨xkind, xop, xd, xar, xan, xbr, xbn, xname, xt⟩ := x
 simp only at *
 clear ho
 subst hk
 obtain ⟨k, rfl⟩ := Int.eq_ofNat_of_zero_le ha.1
 have hmn : mN = m.st.mem.length := HO.out.is.st.mem.n
 have hmc : mN ≤ mC := HO.out.is.st.mem.c
 have hk1 : k < m.st.mem.length := by omega
 have h0 : decide (((k : Nat) : Int) ≥ 0) = true := by simp
 have h1 : decide (((k : Nat) : Int) < ((mN : Nat) : Int)) = true := by simp; omega
 have hkm : k < mN := by omega
 clear ha
 have bb := (q00 w (.cells #[.int .i64 e0, .int .i64 e1, .int .i64 ((k : Nat) : Int), .int .i64 e3, .int .i64 e4, .bool e5, .bool e6, .bool e7] 55)).alloc (by simp) (.cells #[.int .i64 3, .int .i64 xop, .int .i64 xd, .bool xar, .int .i64 xan, .bool xbr, .int .i64 xbn, .string xname, .int .i64 xt] 53)
 have XE := q01 (heap_alloc_new w (.cells #[.int .i64 e0, .int .i64 e1, .int .i64 ((k : Nat) : Int), .int .i64 e3, .int .i64 e4, .bool e5, .bool e6, .bool e7] 55)) (q00 _ (.cells #[.int .i64 3, .int .i64 xop, .int .i64 xd, .bool xar, .int .i64 xan, .bool xbr, .int .i64 xbn, .string xname, .int .i64 xt] 53))
 have XX := heap_alloc2_new w (.cells #[.int .i64 e0, .int .i64 e1, .int .i64 ((k : Nat) : Int), .int .i64 e3, .int .i64 e4, .bool e5, .bool e6, .bool e7] 55) (.cells #[.int .i64 3, .int .i64 xop, .int .i64 xd, .bool xar, .int .i64 xan, .bool xbr, .int .i64 xbn, .string xname, .int .i64 xt] 53)
 have XC := q01 (q01 hb (q00 w (.cells #[.int .i64 e0, .int .i64 e1, .int .i64 ((k : Nat) : Int), .int .i64 e3, .int .i64 e4, .bool e5, .bool e6, .bool e7] 55))) (q00 _ (.cells #[.int .i64 3, .int .i64 xop, .int .i64 xd, .bool xar, .int .i64 xan, .bool xbr, .int .i64 xbn, .string xname, .int .i64 xt] 53))
 have SZ : ((w.alloc (.cells #[.int .i64 e0, .int .i64 e1, .int .i64 ((k : Nat) : Int), .int .i64 e3, .int .i64 e4, .bool e5, .bool e6, .bool e7] 55)).alloc (.cells #[.int .i64 3, .int .i64 xop, .int .i64 xd, .bool xar, .int .i64 xan, .bool xbr, .int .i64 xbn, .string xname, .int .i64 xt] 53)).heap.size = w.heap.size + 2 := by simp
 go_enter Try.func66, Try.ntmps66
 go_upto_region 1 with (fail)
 have HO := Kept.mk (HO.out.past bb)
 have W2 := Kept.mk (bb.mono (Nat.le_of_lt hs))
 have WF : Kept (∀ qq, qq < w.heap.size → ((w.alloc (.cells #[.int .i64 e0, .int .i64 e1, .int .i64 ((k : Nat) : Int), .int .i64 e3, .int .i64 e4, .bool e5, .bool e6, .bool e7] 55)).alloc (.cells #[.int .i64 3, .int .i64 xop, .int .i64 xd, .bool xar, .int .i64 xan, .bool xbr, .int .i64 xbn, .string xname, .int .i64 xt] 53)).heap[qq]? = w.heap[qq]?) := ⟨bb.block⟩
 clear bb hb
 generalize (w.alloc (.cells #[.int .i64 e0, .int .i64 e1, .int .i64 ((k : Nat) : Int), .int .i64 e3, .int .i64 e4, .bool e5, .bool e6, .bool e7] 55)).alloc (.cells #[.int .i64 3, .int .i64 xop, .int .i64 xd, .bool xar, .int .i64 xan, .bool xbr, .int .i64 xbn, .string xname, .int .i64 xt] 53) = w2 at *
 have Y4 := fun j => cell_of_row w2 w.heap.size j _ _ _ XE
 have Y5 := fun j => cell_of_row w2 (w.heap.size + 1) j _ _ _ XX
 have YB := fun j => cell_of_row w2 b j _ _ _ XC
 have FB := fun j => frozen_of_row w2 b j _ _ XC
 have KC := Kept.mk XC
 have XE2 := Kept.mk XE
 simp only [Cnf.cs] at YB
 clear XE XX XC
 obtain ⟨g, hgA, hgB, -, hcell, hfr, hown⟩ := OwnI.elS HO.out.st.mem hk1 e1
 simp only at hgA
 subst hgA
 have HOW := Kept.mk hown
 clear hown
 go_upto_region 8 with (fail)
 go_quiet (fail)
 go_upto_region 9 with (fail)
 have hcell' := hcell
 go_region
 go_wp2_with fail
 refine q0C _ [] Try.results66 .nil rfl ?_
 have KX : (w2.setCell ⟨g, k, none⟩ (.int .i64 e1)).heap[b]? = _ := q03 KC.out (by show g ≠ b; omega)
 refine ⟨rfl, ⟨⟨r0, r1, r2, r3, ⟨some ⟨g, 0, none⟩, mN, mC⟩, ⟨sA, sN, sC⟩, pc⟩, ⟨bA, bN, bC⟩, ⟨qA, qN, qC⟩, fin⟩, KX, ?_, ?_, fun j hj hne => (heap_setCell_other (w2.drewN _) ⟨g, k, none⟩ j _ (by first | (show g ≠ j; omega) | (show j ≠ g; omega))).trans (WF.out j (by omega))⟩
 ·exact CfOwn.setMem (w := w2.drewN _) (CfOwn.past (w := w2) HO.out ⟨rfl, rfl, rfl, Nat.le_refl _, fun _ _ => rfl⟩) g k _ _ rfl HOW.out
 ·exact Below.setCell (w := w2.drewN _) ⟨W2.out.os, W2.out.tape, W2.out.output, W2.out.size, W2.out.block⟩ (p := ⟨g, k, none⟩) (by show b ≤ g; omega) _
set_option maxRecDepth 100000 in
set_option maxHeartbeats 1600000 in
theorem pcommit_call (b B : Nat) (c : Cnf) (m : Conf) (e : Ent) (x : Inst) (w : World) (hb : w.heap[b]? = some (.cells c.cs.toArray 41 (0, 0))) (hbB : b < B) (hB : B ≤ w.heap.size) (ho : CfOwn w B c m) (hk : x.kind = 8) (hpc : -2 ≤ e.pc ∧ e.pc ≤ 1000000) (hsl : m.st.stack.length ≤ 1000) :
  Calls Try.prog 66 #[.pointer (some ⟨b, 0, none⟩), e.v, x.v] w (PCom b B ({ m with st := { m.st with stack := m.st.stack ++ [e.pc + 1] } }) w) := by
 have HO := Kept.mk ho
 have hs : b < w.heap.size := by omega
 obtain ⟨⟨r0, r1, r2, r3, ⟨mA, mN, mC⟩, ⟨sA, sN, sC⟩, pc⟩, ⟨bA, bN, bC⟩, ⟨qA, qN, qC⟩, fin⟩ := c
 obtain ⟨e0, e1, e2, e3, e4, e5, e6, e7⟩ := e
 obtain ⟨xkind, xop, xd, xar, xan, xbr, xbn, xname, xt⟩ := x
 simp only at *
 clear ho
 subst hk
 have hsn : sN = m.st.stack.length := HO.out.is.st.stack.n
 subst hsn
 have wa : IntKind.i64.wrap (e0 + 1) = e0 + 1 := IntWalk.i64_in _ (by omega)
 obtain ⟨i0, hi0, hz0, hz1, hz2⟩ := info_parts q2C
 have bb := (q00 w (.cells #[.int .i64 e0, .int .i64 e1, .int .i64 e2, .int .i64 e3, .int .i64 e4, .bool e5, .bool e6, .bool e7] 55)).alloc (by simp) (.cells #[.int .i64 8, .int .i64 xop, .int .i64 xd, .bool xar, .int .i64 xan, .bool xbr, .int .i64 xbn, .string xname, .int .i64 xt] 53)
 have XE := q01 (heap_alloc_new w (.cells #[.int .i64 e0, .int .i64 e1, .int .i64 e2, .int .i64 e3, .int .i64 e4, .bool e5, .bool e6, .bool e7] 55)) (q00 _ (.cells #[.int .i64 8, .int .i64 xop, .int .i64 xd, .bool xar, .int .i64 xan, .bool xbr, .int .i64 xbn, .string xname, .int .i64 xt] 53))
 have XX := heap_alloc2_new w (.cells #[.int .i64 e0, .int .i64 e1, .int .i64 e2, .int .i64 e3, .int .i64 e4, .bool e5, .bool e6, .bool e7] 55) (.cells #[.int .i64 8, .int .i64 xop, .int .i64 xd, .bool xar, .int .i64 xan, .bool xbr, .int .i64 xbn, .string xname, .int .i64 xt] 53)
 have XC := q01 (q01 hb (q00 w (.cells #[.int .i64 e0, .int .i64 e1, .int .i64 e2, .int .i64 e3, .int .i64 e4, .bool e5, .bool e6, .bool e7] 55))) (q00 _ (.cells #[.int .i64 8, .int .i64 xop, .int .i64 xd, .bool xar, .int .i64 xan, .bool xbr, .int .i64 xbn, .string xname, .int .i64 xt] 53))
 have SZ : ((w.alloc (.cells #[.int .i64 e0, .int .i64 e1, .int .i64 e2, .int .i64 e3, .int .i64 e4, .bool e5, .bool e6, .bool e7] 55)).alloc (.cells #[.int .i64 8, .int .i64 xop, .int .i64 xd, .bool xar, .int .i64 xan, .bool xbr, .int .i64 xbn, .string xname, .int .i64 xt] 53)).heap.size = w.heap.size + 2 := by simp
 go_enter Try.func66, Try.ntmps66
 go_upto_region 1 with (fail)
 have HO := Kept.mk (HO.out.past bb)
 have W2 := Kept.mk (bb.mono (Nat.le_of_lt hs))
 have WF : Kept (∀ qq, qq < w.heap.size → ((w.alloc (.cells #[.int .i64 e0, .int .i64 e1, .int .i64 e2, .int .i64 e3, .int .i64 e4, .bool e5, .bool e6, .bool e7] 55)).alloc (.cells #[.int .i64 8, .int .i64 xop, .int .i64 xd, .bool xar, .int .i64 xan, .bool xbr, .int .i64 xbn, .string xname, .int .i64 xt] 53)).heap[qq]? = w.heap[qq]?) := ⟨bb.block⟩
 clear bb hb
 generalize (w.alloc (.cells #[.int .i64 e0, .int .i64 e1, .int .i64 e2, .int .i64 e3, .int .i64 e4, .bool e5, .bool e6, .bool e7] 55)).alloc (.cells #[.int .i64 8, .int .i64 xop, .int .i64 xd, .bool xar, .int .i64 xan, .bool xbr, .int .i64 xbn, .string xname, .int .i64 xt] 53) = w2 at *
 have Y4 := fun j => cell_of_row w2 w.heap.size j _ _ _ XE
 have Y5 := fun j => cell_of_row w2 (w.heap.size + 1) j _ _ _ XX
 have YB := fun j => cell_of_row w2 b j _ _ _ XC
 have FB := fun j => frozen_of_row w2 b j _ _ XC
 have KC := Kept.mk XC
 have XE2 := Kept.mk XE
 simp only [Cnf.cs] at YB
 clear XE XX XC
 go_upto_region 11 with (fail)
 have hb2 : b < w2.heap.size := by omega
 have Z4 := fun j => cell_of_row (w2.alloc (.cells #[.int .i64 (e0 + 1)] 3)) w.heap.size j _ _ _ (q01 XE2.out (q00 _ _))
 have ZB := fun j => cell_of_row (w2.alloc (.cells #[.int .i64 (e0 + 1)] 3)) b j _ _ _ (q01 KC.out (q00 _ _))
 simp only [Cnf.cs] at ZB
 go_region_law (refine step_append_any rfl (.tmp 58) (.tmp 62) 22 rfl B 3 i0 _ 1 8 Try.underlying22 hi0 hz0 hz1 hz2 rfl (by omega) (.slice sA m.st.stack.length sC) m.st.stack.length (intCs m.st.stack) (by simp [Act.eval]) (own_past (w := w2.drew) HO.out.st.stack (q00 _ _)) _ (some ⟨w2.heap.size, 0, Option.none⟩) 1 1 (intCs [e0 + 1]) (by simp [Act.eval]) (q17 (q06 rfl) rfl) (q28 [e0 + 1]) (by unfold maxLen; omega) (by omega) (by simp; omega) ?_; intro v8 w8 g1 g2 g3; obtain ⟨A8, c8, rfl, hc8, -⟩ := q2F g1; have X8 := Kept.mk ((g2.block b (by simp; omega) (by intro e; have := (World.ownsRow.lt HO.out.st.stack b e.symm).1; omega)).trans ((heap_alloc_old _ _ hb2).trans KC.out)); have f8 : w8.cell? ⟨b, 5, none⟩ = some (.slice sA m.st.stack.length sC) := cell_of_row w8 b 5 _ _ _ X8.out; have fz8 := frozen_of_row w8 b 5 _ _ X8.out)
 all_goals
  go_wp2_with fail
  refine q0C _ [] Try.results66 .nil rfl ?_
  have hown : OwnI w8 B (.slice A8 (m.st.stack.length + 1) c8) (m.st.stack ++ [e0 + 1]) := by
   unfold OwnI
   rw [intCs_append, List.length_append]
   exact g1
  refine ⟨rfl, ⟨⟨r0, r1, r2, r3, ⟨mA, mN, mC⟩, ⟨A8, m.st.stack.length + 1, c8⟩, pc⟩, ⟨bA, bN, bC⟩, ⟨qA, qN, qC⟩, fin⟩, heap_setCell_same _ b 5 _ _ _ X8.out, ?_, ?_, fun k hk hne => (heap_setCell_other w8 ⟨b, 5, none⟩ k _ (by first | exact hne | exact Ne.symm hne)).trans ((g2.block k (by simp; omega) (fun e => by have := (World.ownsRow.lt HO.out.st.stack k e.symm).1; omega)).trans ((heap_alloc_old _ _ (by omega)).trans (WF.out k (by omega))))⟩
  ·refine CfOwn.far ?_ (by exact hbB) _
   have HO8 := CfOwn.past (CfOwn.past HO.out (q00 w2 (.cells #[.int .i64 (e0 + 1)] 3))) (Below.refl _ _).drew
   exact HO8.putStack ⟨A8, m.st.stack.length + 1, c8⟩ _ g2 hown (by
    rcases g3 with e | e
    ·exact .inl e
    ·exact .inr fun k hk => by
      change (Value.slice A8 (m.st.stack.length + 1) c8).ownBlock = some k at hk
      rw [e] at hk
      injection hk with hk
      exact Nat.le_of_eq hk)
  ·exact Below.setCell (Below.grown (W2.out.alloc (by omega) _).drew g2 (by simp; omega) (fun k hk => by have := (World.ownsRow.lt HO.out.st.stack k hk).1; omega)) (p := ⟨b, 5, none⟩) (Nat.le_refl _) _
set_option maxRecDepth 100000 in
set_option maxHeartbeats 1600000 in
theorem pcommit_ret (b B : Nat) (c : Cnf) (m : Conf) (e : Ent) (x : Inst) (w : World) (hb : w.heap[b]? = some (.cells c.cs.toArray 41 (0, 0))) (hbB : b < B) (hB : B ≤ w.heap.size) (ho : CfOwn w B c m) (hk : x.kind = 9) (hne : m.st.stack ≠ []) (hsl : m.st.stack.length ≤ 1000) :
  Calls Try.prog 66 #[.pointer (some ⟨b, 0, none⟩), e.v, x.v] w (PCom b B ({ m with st := { m.st with stack := m.st.stack.dropLast } }) w) := by
 have HO := Kept.mk ho
 have hs : b < w.heap.size := by omega
 obtain ⟨⟨r0, r1, r2, r3, ⟨mA, mN, mC⟩, ⟨sA, sN, sC⟩, pc⟩, ⟨bA, bN, bC⟩, ⟨qA, qN, qC⟩, fin⟩ := c
 obtain ⟨e0, e1, e2, e3, e4, e5, e6, e7⟩ := e
 obtain ⟨xkind, xop, xd, xar, xan, xbr, xbn, xname, xt⟩ := x
 simp only at *
 clear ho
 subst hk
 have hsn : sN = m.st.stack.length := HO.out.is.st.stack.n
 have hsc : sN ≤ sC := HO.out.is.st.stack.c
 obtain ⟨k, hk⟩ : ∃ k, m.st.stack.length = k + 1 := ⟨m.st.stack.length - 1, by have := List.length_pos_iff.2 hne; omega⟩
 rw [hk] at hsn
 subst hsn
 have hdl : m.st.stack.dropLast = m.st.stack.take k := by rw [List.dropLast_eq_take, hk]; rfl
 rw [hdl]
 have bb := (q00 w (.cells #[.int .i64 e0, .int .i64 e1, .int .i64 e2, .int .i64 e3, .int .i64 e4, .bool e5, .bool e6, .bool e7] 55)).alloc (by simp) (.cells #[.int .i64 9, .int .i64 xop, .int .i64 xd, .bool xar, .int .i64 xan, .bool xbr, .int .i64 xbn, .string xname, .int .i64 xt] 53)
 have XE := q01 (heap_alloc_new w (.cells #[.int .i64 e0, .int .i64 e1, .int .i64 e2, .int .i64 e3, .int .i64 e4, .bool e5, .bool e6, .bool e7] 55)) (q00 _ (.cells #[.int .i64 9, .int .i64 xop, .int .i64 xd, .bool xar, .int .i64 xan, .bool xbr, .int .i64 xbn, .string xname, .int .i64 xt] 53))
 have XX := heap_alloc2_new w (.cells #[.int .i64 e0, .int .i64 e1, .int .i64 e2, .int .i64 e3, .int .i64 e4, .bool e5, .bool e6, .bool e7] 55) (.cells #[.int .i64 9, .int .i64 xop, .int .i64 xd, .bool xar, .int .i64 xan, .bool xbr, .int .i64 xbn, .string xname, .int .i64 xt] 53)
 have XC := q01 (q01 hb (q00 w (.cells #[.int .i64 e0, .int .i64 e1, .int .i64 e2, .int .i64 e3, .int .i64 e4, .bool e5, .bool e6, .bool e7] 55))) (q00 _ (.cells #[.int .i64 9, .int .i64 xop, .int .i64 xd, .bool xar, .int .i64 xan, .bool xbr, .int .i64 xbn, .string xname, .int .i64 xt] 53))
 have SZ : ((w.alloc (.cells #[.int .i64 e0, .int .i64 e1, .int .i64 e2, .int .i64 e3, .int .i64 e4, .bool e5, .bool e6, .bool e7] 55)).alloc (.cells #[.int .i64 9, .int .i64 xop, .int .i64 xd, .bool xar, .int .i64 xan, .bool xbr, .int .i64 xbn, .string xname, .int .i64 xt] 53)).heap.size = w.heap.size + 2 := by simp
 go_enter Try.func66, Try.ntmps66
 go_upto_region 1 with (fail)
 have HO := Kept.mk (HO.out.past bb)
 have W2 := Kept.mk (bb.mono (Nat.le_of_lt hs))
 have WF : Kept (∀ qq, qq < w.heap.size → ((w.alloc (.cells #[.int .i64 e0, .int .i64 e1, .int .i64 e2, .int .i64 e3, .int .i64 e4, .bool e5, .bool e6, .bool e7] 55)).alloc (.cells #[.int .i64 9, .int .i64 xop, .int .i64 xd, .bool xar, .int .i64 xan, .bool xbr, .int .i64 xbn, .string xname, .int .i64 xt] 53)).heap[qq]? = w.heap[qq]?) := ⟨bb.block⟩
 clear bb hb
 generalize (w.alloc (.cells #[.int .i64 e0, .int .i64 e1, .int .i64 e2, .int .i64 e3, .int .i64 e4, .bool e5, .bool e6, .bool e7] 55)).alloc (.cells #[.int .i64 9, .int .i64 xop, .int .i64 xd, .bool xar, .int .i64 xan, .bool xbr, .int .i64 xbn, .string xname, .int .i64 xt] 53) = w2 at *
 have Y4 := fun j => cell_of_row w2 w.heap.size j _ _ _ XE
 have Y5 := fun j => cell_of_row w2 (w.heap.size + 1) j _ _ _ XX
 have YB := fun j => cell_of_row w2 b j _ _ _ XC
 have FB := fun j => frozen_of_row w2 b j _ _ XC
 have KC := Kept.mk XC
 have XE2 := Kept.mk XE
 simp only [Cnf.cs] at YB
 clear XE XX XC
 go_wp2_with fail
 refine (rpop_some sA sC k m.st.stack w2 hk hsc HO.out.is.st.stack.r (by omega)).mono ?_
 rintro en w3 ⟨v, rfl, hv, b3⟩
 obtain ⟨⟨vA, vN, vC⟩, rfl, hv⟩ := OwnI.sl hv
 have X3 := q01 KC.out b3
 have KC3 := Kept.mk X3
 have f5 : w3.cell? ⟨b, 5, none⟩ = some (.slice sA (k + 1) sC) := cell_of_row w3 b 5 _ _ _ X3
 have fz := frozen_of_row w3 b 5 _ _ X3
 have HV := Kept.mk hv
 have B3 := Kept.mk b3
 clear YB FB X3 hv b3 Y4 Y5
 go_wp2_with fail
 refine q0C _ [] Try.results66 .nil rfl ?_
 refine ⟨rfl, ⟨⟨r0, r1, r2, r3, ⟨mA, mN, mC⟩, ⟨vA, vN, vC⟩, pc⟩, ⟨bA, bN, bC⟩, ⟨qA, qN, qC⟩, fin⟩, heap_setCell_same _ b 5 _ _ _ KC3.out, ?_, ?_, fun k hk hne => (heap_setCell_other w3 ⟨b, 5, none⟩ k _ (by first | exact hne | exact Ne.symm hne)).trans ((B3.out.block k (by omega)).trans (WF.out k (by omega)))⟩
 ·refine CfOwn.far ?_ (by exact hbB) _
  exact CfOwn.putStack HO.out ⟨vA, vN, vC⟩ _ (q1A B3.out _) (OwnI.lower HV.out (by omega)) (.inr fun k hk => (World.ownsRow.lt HV.out k hk).1)
 ·exact Below.setCell (W2.out.trans (B3.out.mono (by omega))) (p := ⟨b, 5, none⟩) (Nat.le_refl _) _
set_option maxRecDepth 100000 in
set_option maxHeartbeats 1600000 in
theorem pcommit_rest (b B : Nat) (c : Cnf) (m : Conf) (e : Ent) (x : Inst) (w : World) (hb : w.heap[b]? = some (.cells c.cs.toArray 41 (0, 0))) (hbB : b < B) (hB : B ≤ w.heap.size) (ho : CfOwn w B c m) (h1 : x.kind ≠ 1) (h2 : x.kind ≠ 2) (h3 : x.kind ≠ 3) (h4 : x.kind ≠ 4) (h8 : x.kind ≠ 8) (h9 : x.kind ≠ 9) :
  Calls Try.prog 66 #[.pointer (some ⟨b, 0, none⟩), e.v, x.v] w (PCom b B (m) w) := by
 have HO := Kept.mk ho
 have hs : b < w.heap.size := by omega
 obtain ⟨⟨r0, r1, r2, r3, ⟨mA, mN, mC⟩, ⟨sA, sN, sC⟩, pc⟩, ⟨bA, bN, bC⟩, ⟨qA, qN, qC⟩, fin⟩ := c
 obtain ⟨e0, e1, e2, e3, e4, e5, e6, e7⟩ := e
 obtain ⟨xkind, xop, xd, xar, xan, xbr, xbn, xname, xt⟩ := x
 simp only at *
 clear ho
 have k1 : (xkind == 1) = false := by simpa using h1
 have k2 : (xkind == 2) = false := by simpa using h2
 have k3 : (xkind == 3) = false := by simpa using h3
 have k4 : (xkind == 4) = false := by simpa using h4
 have k8 : (xkind == 8) = false := by simpa using h8
 have k9 : (xkind == 9) = false := by simpa using h9
 clear h1 h2 h3 h4 h8 h9
 have bb := (q00 w (.cells #[.int .i64 e0, .int .i64 e1, .int .i64 e2, .int .i64 e3, .int .i64 e4, .bool e5, .bool e6, .bool e7] 55)).alloc (by simp) (.cells #[.int .i64 xkind, .int .i64 xop, .int .i64 xd, .bool xar, .int .i64 xan, .bool xbr, .int .i64 xbn, .string xname, .int .i64 xt] 53)
 have XE := q01 (heap_alloc_new w (.cells #[.int .i64 e0, .int .i64 e1, .int .i64 e2, .int .i64 e3, .int .i64 e4, .bool e5, .bool e6, .bool e7] 55)) (q00 _ (.cells #[.int .i64 xkind, .int .i64 xop, .int .i64 xd, .bool xar, .int .i64 xan, .bool xbr, .int .i64 xbn, .string xname, .int .i64 xt] 53))
 have XX := heap_alloc2_new w (.cells #[.int .i64 e0, .int .i64 e1, .int .i64 e2, .int .i64 e3, .int .i64 e4, .bool e5, .bool e6, .bool e7] 55) (.cells #[.int .i64 xkind, .int .i64 xop, .int .i64 xd, .bool xar, .int .i64 xan, .bool xbr, .int .i64 xbn, .string xname, .int .i64 xt] 53)
 have XC := q01 (q01 hb (q00 w (.cells #[.int .i64 e0, .int .i64 e1, .int .i64 e2, .int .i64 e3, .int .i64 e4, .bool e5, .bool e6, .bool e7] 55))) (q00 _ (.cells #[.int .i64 xkind, .int .i64 xop, .int .i64 xd, .bool xar, .int .i64 xan, .bool xbr, .int .i64 xbn, .string xname, .int .i64 xt] 53))
 have SZ : ((w.alloc (.cells #[.int .i64 e0, .int .i64 e1, .int .i64 e2, .int .i64 e3, .int .i64 e4, .bool e5, .bool e6, .bool e7] 55)).alloc (.cells #[.int .i64 xkind, .int .i64 xop, .int .i64 xd, .bool xar, .int .i64 xan, .bool xbr, .int .i64 xbn, .string xname, .int .i64 xt] 53)).heap.size = w.heap.size + 2 := by simp
 go_enter Try.func66, Try.ntmps66
 go_upto_region 1 with (fail)
 have HO := Kept.mk (HO.out.past bb)
 have W2 := Kept.mk (bb.mono (Nat.le_of_lt hs))
 have WF : Kept (∀ qq, qq < w.heap.size → ((w.alloc (.cells #[.int .i64 e0, .int .i64 e1, .int .i64 e2, .int .i64 e3, .int .i64 e4, .bool e5, .bool e6, .bool e7] 55)).alloc (.cells #[.int .i64 xkind, .int .i64 xop, .int .i64 xd, .bool xar, .int .i64 xan, .bool xbr, .int .i64 xbn, .string xname, .int .i64 xt] 53)).heap[qq]? = w.heap[qq]?) := ⟨bb.block⟩
 clear bb hb
 generalize (w.alloc (.cells #[.int .i64 e0, .int .i64 e1, .int .i64 e2, .int .i64 e3, .int .i64 e4, .bool e5, .bool e6, .bool e7] 55)).alloc (.cells #[.int .i64 xkind, .int .i64 xop, .int .i64 xd, .bool xar, .int .i64 xan, .bool xbr, .int .i64 xbn, .string xname, .int .i64 xt] 53) = w2 at *
 have Y4 := fun j => cell_of_row w2 w.heap.size j _ _ _ XE
 have Y5 := fun j => cell_of_row w2 (w.heap.size + 1) j _ _ _ XX
 have YB := fun j => cell_of_row w2 b j _ _ _ XC
 have FB := fun j => frozen_of_row w2 b j _ _ XC
 have KC := Kept.mk XC
 have XE2 := Kept.mk XE
 simp only [Cnf.cs] at YB
 clear XE XX XC
 go_wp2_with fail
 refine q0C _ [] Try.results66 .nil rfl ?_
 exact ⟨rfl, ⟨⟨r0, r1, r2, r3, ⟨mA, mN, mC⟩, ⟨sA, sN, sC⟩, pc⟩, ⟨bA, bN, bC⟩, ⟨qA, qN, qC⟩, fin⟩, KC.out, HO.out, W2.out, fun k hk hne => WF.out k (by omega)⟩
end
section
theorem final_is (c : Cnf) (w : World) (b : Bool) (h : decide (c.fin ≠ 0) = b) : Calls Try.prog 51 #[c.v] w fun en w' => en = .returned (.bool b) ∧ Below w.heap.size w w' := by
 subst h
 exact final_any c w
def endOf (x : Inst) (e : Ent) : Int := if e.fault = true ∨ x.kind = 12 then 2 else if x.kind = 11 then 1 else 0
set_option maxRecDepth 100000 in
set_option maxHeartbeats 1000000 in
theorem pended (e : Ent) (x : Inst) (w : World) : Calls Try.prog 65 #[e.v, x.v] w fun en w' => en = .returned (.int .i64 (endOf x e)) ∧ Below w.heap.size w w' := by
 obtain ⟨kind, op, xd, ar, an, br, bn, name, target⟩ := x
 obtain ⟨epc, ev, ea, ef, enx, ed, ek, eflt⟩ := e
 unfold endOf
 simp only
 cases eflt with
 | true =>
  rw [if_pos (.inl rfl)]
  go_enter Try.func65, Try.ntmps65
  go_wp2_with fail
  go_ret
  exact ⟨rfl, by go_grown⟩
 | false =>
  by_cases h12 : kind = 12
  ·subst h12
   rw [if_pos (.inr rfl)]
   go_enter Try.func65, Try.ntmps65
   go_wp2_with fail
   go_ret
   exact ⟨rfl, by go_grown⟩
  ·have k12 : (kind == 12) = false := by simpa using h12
   rw [if_neg (by simp [h12])]
   clear h12
   by_cases h11 : kind = 11
   ·subst h11
    rw [if_pos rfl]
    go_enter Try.func65, Try.ntmps65
    go_wp2_with fail
    go_ret
    exact ⟨rfl, by go_grown⟩
   ·have k11 : (kind == 11) = false := by simpa using h11
    rw [if_neg h11]
    clear h11
    go_enter Try.func65, Try.ntmps65
    go_wp2_with fail
    go_ret
    exact ⟨rfl, by go_grown⟩
set_option maxRecDepth 100000 in
set_option maxHeartbeats 1600000 in
theorem pcan_any (p : Prg) (il : List Inst) (c : Cnf) (m : Conf) (w : World) (hp : PIs w p il) (hc : CfIs w c m) (hln : m.buf.length ≤ 1000000) :
  Calls Try.prog 29 #[p.v, c.v] w fun en w' => en = .returned (.bool (canRetOf il m)) ∧ Below w.heap.size w w' := by
 have HP := Kept.mk hp
 clear hp
 have hbr := hc.buf
 have hfin := hc.fin
 obtain ⟨⟨r0, r1, r2, r3, ⟨mA, mN, mC⟩, ⟨sA, sN, sC⟩, pc⟩, ⟨bA, bN, bC⟩, ⟨qA, qN, qC⟩, fin⟩ := c
 clear hc
 unfold canRetOf
 generalize m.buf = l at *
 generalize m.fin = mf at *
 simp only at hfin
 subst hfin
 obtain ⟨hbn, hbc, hbr⟩ := hbr
 simp only at hbn hbc hbr
 subst hbn
 cases l with
 | nil =>
  simp only [List.length_nil] at *
  by_cases hf : fin = 0
  ·subst hf
   have bb := (q00 w (.cells #[.int .i64 p.W, .int .i64 p.window, .int .i64 p.fuel, .int .i64 p.r0, .int .i64 p.r1, .int .i64 p.r2, .int .i64 p.r3, p.mems, p.labels, .slice p.A p.n p.c] 33)).alloc (by simp) (.cells #[.int .i64 r0, .int .i64 r1, .int .i64 r2, .int .i64 r3, .slice mA mN mC, .slice sA sN sC, .int .i64 pc, .slice bA 0 bC, .slice qA qN qC, .int .i64 0] 41)
   have X3 := heap_alloc2_new w (.cells #[.int .i64 p.W, .int .i64 p.window, .int .i64 p.fuel, .int .i64 p.r0, .int .i64 p.r1, .int .i64 p.r2, .int .i64 p.r3, p.mems, p.labels, .slice p.A p.n p.c] 33) (.cells #[.int .i64 r0, .int .i64 r1, .int .i64 r2, .int .i64 r3, .slice mA mN mC, .slice sA sN sC, .int .i64 pc, .slice bA 0 bC, .slice qA qN qC, .int .i64 0] 41)
   have X2 := q01 (heap_alloc_new w (.cells #[.int .i64 p.W, .int .i64 p.window, .int .i64 p.fuel, .int .i64 p.r0, .int .i64 p.r1, .int .i64 p.r2, .int .i64 p.r3, p.mems, p.labels, .slice p.A p.n p.c] 33)) (q00 _ (.cells #[.int .i64 r0, .int .i64 r1, .int .i64 r2, .int .i64 r3, .slice mA mN mC, .slice sA sN sC, .int .i64 pc, .slice bA 0 bC, .slice qA qN qC, .int .i64 0] 41))
   have S2 : ((w.alloc (.cells #[.int .i64 p.W, .int .i64 p.window, .int .i64 p.fuel, .int .i64 p.r0, .int .i64 p.r1, .int .i64 p.r2, .int .i64 p.r3, p.mems, p.labels, .slice p.A p.n p.c] 33)).alloc (.cells #[.int .i64 r0, .int .i64 r1, .int .i64 r2, .int .i64 r3, .slice mA mN mC, .slice sA sN sC, .int .i64 pc, .slice bA 0 bC, .slice qA qN qC, .int .i64 0] 41)).heap.size = w.heap.size + 2 := by simp
   go_enter Try.func29, Try.ntmps29
   go_upto_region 1 with (fail)
   have W2 := Kept.mk bb
   clear bb
   generalize (w.alloc (.cells #[.int .i64 p.W, .int .i64 p.window, .int .i64 p.fuel, .int .i64 p.r0, .int .i64 p.r1, .int .i64 p.r2, .int .i64 p.r3, p.mems, p.labels, .slice p.A p.n p.c] 33)).alloc (.cells #[.int .i64 r0, .int .i64 r1, .int .i64 r2, .int .i64 r3, .slice mA mN mC, .slice sA sN sC, .int .i64 pc, .slice bA 0 bC, .slice qA qN qC, .int .i64 0] 41) = w2 at *
   have Y3 := fun j => cell_of_row w2 (w.heap.size + 1) j _ _ _ X3
   go_wp2_with fail
   refine (final_is ⟨⟨r0, r1, r2, r3, ⟨mA, mN, mC⟩, ⟨sA, sN, sC⟩, pc⟩, ⟨bA, 0, bC⟩, ⟨qA, qN, qC⟩, 0⟩ w2 false (decide_eq_false (by simp))).mono ?_
   rintro en w3 ⟨rfl, b3⟩
   have X3 := q01 X3 b3
   have Y3 := fun j => cell_of_row w3 (w.heap.size + 1) j _ _ _ X3
   have W3 := Kept.mk (W2.out.trans (b3.mono W2.out.size))
   clear W2 b3
   go_wp2_with fail
   go_ret
   exact ⟨rfl, W3.out⟩
  ·have hf' : decide (fin ≠ 0) = true := by simpa using hf
   have bb := (q00 w (.cells #[.int .i64 p.W, .int .i64 p.window, .int .i64 p.fuel, .int .i64 p.r0, .int .i64 p.r1, .int .i64 p.r2, .int .i64 p.r3, p.mems, p.labels, .slice p.A p.n p.c] 33)).alloc (by simp) (.cells #[.int .i64 r0, .int .i64 r1, .int .i64 r2, .int .i64 r3, .slice mA mN mC, .slice sA sN sC, .int .i64 pc, .slice bA 0 bC, .slice qA qN qC, .int .i64 fin] 41)
   have X3 := heap_alloc2_new w (.cells #[.int .i64 p.W, .int .i64 p.window, .int .i64 p.fuel, .int .i64 p.r0, .int .i64 p.r1, .int .i64 p.r2, .int .i64 p.r3, p.mems, p.labels, .slice p.A p.n p.c] 33) (.cells #[.int .i64 r0, .int .i64 r1, .int .i64 r2, .int .i64 r3, .slice mA mN mC, .slice sA sN sC, .int .i64 pc, .slice bA 0 bC, .slice qA qN qC, .int .i64 fin] 41)
   have X2 := q01 (heap_alloc_new w (.cells #[.int .i64 p.W, .int .i64 p.window, .int .i64 p.fuel, .int .i64 p.r0, .int .i64 p.r1, .int .i64 p.r2, .int .i64 p.r3, p.mems, p.labels, .slice p.A p.n p.c] 33)) (q00 _ (.cells #[.int .i64 r0, .int .i64 r1, .int .i64 r2, .int .i64 r3, .slice mA mN mC, .slice sA sN sC, .int .i64 pc, .slice bA 0 bC, .slice qA qN qC, .int .i64 fin] 41))
   have S2 : ((w.alloc (.cells #[.int .i64 p.W, .int .i64 p.window, .int .i64 p.fuel, .int .i64 p.r0, .int .i64 p.r1, .int .i64 p.r2, .int .i64 p.r3, p.mems, p.labels, .slice p.A p.n p.c] 33)).alloc (.cells #[.int .i64 r0, .int .i64 r1, .int .i64 r2, .int .i64 r3, .slice mA mN mC, .slice sA sN sC, .int .i64 pc, .slice bA 0 bC, .slice qA qN qC, .int .i64 fin] 41)).heap.size = w.heap.size + 2 := by simp
   go_enter Try.func29, Try.ntmps29
   go_upto_region 1 with (fail)
   have W2 := Kept.mk bb
   clear bb
   generalize (w.alloc (.cells #[.int .i64 p.W, .int .i64 p.window, .int .i64 p.fuel, .int .i64 p.r0, .int .i64 p.r1, .int .i64 p.r2, .int .i64 p.r3, p.mems, p.labels, .slice p.A p.n p.c] 33)).alloc (.cells #[.int .i64 r0, .int .i64 r1, .int .i64 r2, .int .i64 r3, .slice mA mN mC, .slice sA sN sC, .int .i64 pc, .slice bA 0 bC, .slice qA qN qC, .int .i64 fin] 41) = w2 at *
   have Y3 := fun j => cell_of_row w2 (w.heap.size + 1) j _ _ _ X3
   go_wp2_with fail
   refine (final_is ⟨⟨r0, r1, r2, r3, ⟨mA, mN, mC⟩, ⟨sA, sN, sC⟩, pc⟩, ⟨bA, 0, bC⟩, ⟨qA, qN, qC⟩, fin⟩ w2 true hf').mono ?_
   rintro en w3 ⟨rfl, b3⟩
   have W3 := Kept.mk (W2.out.trans (b3.mono W2.out.size))
   clear W2 b3
   go_wp2_with fail
   go_ret
   exact ⟨rfl, W3.out⟩
 | cons e t =>
  obtain ⟨b, o, rfl, hbb, hel⟩ := hbr.el (k := 0) (by simp)
  simp only [Nat.zero_mul, Nat.add_zero, List.getElem_cons_zero] at hel
  have HEL := Kept.mk hel
  clear hbr hel
  by_cases hf : fin = 0
  ·subst hf
   rw [decide_eq_true rfl]
   simp only [Bool.true_and]
   generalize hx : instAt il e.pc = x
   have HAT : Kept (∀ w1, PIs w1 p il → Calls Try.prog 61 #[p.v, .int .i64 e.pc] w1 fun en w' => en = .returned x.v ∧ Below w1.heap.size w1 w') := ⟨fun w1 h => by rw [← hx]; exact at8 p il e.pc w1 h⟩
   clear hx
   generalize hres : canRetE x e = R
   have HRES := Kept.mk hres
   clear hres
   have hlen : 0 < (e :: t).length := by simp
   generalize (e :: t).length = n at *
   have hn0 : (n == 0) = false := by simp; omega
   have hn0' : ((n : Int) == 0) = false := by simp; omega
   have bb := (q00 w (.cells #[.int .i64 p.W, .int .i64 p.window, .int .i64 p.fuel, .int .i64 p.r0, .int .i64 p.r1, .int .i64 p.r2, .int .i64 p.r3, p.mems, p.labels, .slice p.A p.n p.c] 33)).alloc (by simp) (.cells #[.int .i64 r0, .int .i64 r1, .int .i64 r2, .int .i64 r3, .slice mA mN mC, .slice sA sN sC, .int .i64 pc, .slice (some ⟨b, o, none⟩) n bC, .slice qA qN qC, .int .i64 0] 41)
   have X3 := heap_alloc2_new w (.cells #[.int .i64 p.W, .int .i64 p.window, .int .i64 p.fuel, .int .i64 p.r0, .int .i64 p.r1, .int .i64 p.r2, .int .i64 p.r3, p.mems, p.labels, .slice p.A p.n p.c] 33) (.cells #[.int .i64 r0, .int .i64 r1, .int .i64 r2, .int .i64 r3, .slice mA mN mC, .slice sA sN sC, .int .i64 pc, .slice (some ⟨b, o, none⟩) n bC, .slice qA qN qC, .int .i64 0] 41)
   have X2 := q01 (heap_alloc_new w (.cells #[.int .i64 p.W, .int .i64 p.window, .int .i64 p.fuel, .int .i64 p.r0, .int .i64 p.r1, .int .i64 p.r2, .int .i64 p.r3, p.mems, p.labels, .slice p.A p.n p.c] 33)) (q00 _ (.cells #[.int .i64 r0, .int .i64 r1, .int .i64 r2, .int .i64 r3, .slice mA mN mC, .slice sA sN sC, .int .i64 pc, .slice (some ⟨b, o, none⟩) n bC, .slice qA qN qC, .int .i64 0] 41))
   have S2 : ((w.alloc (.cells #[.int .i64 p.W, .int .i64 p.window, .int .i64 p.fuel, .int .i64 p.r0, .int .i64 p.r1, .int .i64 p.r2, .int .i64 p.r3, p.mems, p.labels, .slice p.A p.n p.c] 33)).alloc (.cells #[.int .i64 r0, .int .i64 r1, .int .i64 r2, .int .i64 r3, .slice mA mN mC, .slice sA sN sC, .int .i64 pc, .slice (some ⟨b, o, none⟩) n bC, .slice qA qN qC, .int .i64 0] 41)).heap.size = w.heap.size + 2 := by simp
   go_enter Try.func29, Try.ntmps29
   go_upto_region 1 with (fail)
   have W2 := Kept.mk bb
   clear bb
   generalize (w.alloc (.cells #[.int .i64 p.W, .int .i64 p.window, .int .i64 p.fuel, .int .i64 p.r0, .int .i64 p.r1, .int .i64 p.r2, .int .i64 p.r3, p.mems, p.labels, .slice p.A p.n p.c] 33)).alloc (.cells #[.int .i64 r0, .int .i64 r1, .int .i64 r2, .int .i64 r3, .slice mA mN mC, .slice sA sN sC, .int .i64 pc, .slice (some ⟨b, o, none⟩) n bC, .slice qA qN qC, .int .i64 0] 41) = w2 at *
   have Y3 := fun j => cell_of_row w2 (w.heap.size + 1) j _ _ _ X3
   go_wp2_with fail
   refine (final_is ⟨⟨r0, r1, r2, r3, ⟨mA, mN, mC⟩, ⟨sA, sN, sC⟩, pc⟩, ⟨some ⟨b, o, none⟩, n, bC⟩, ⟨qA, qN, qC⟩, 0⟩ w2 false (decide_eq_false (by simp))).mono ?_
   rintro en w3 ⟨rfl, b3⟩
   have X3 := q01 X3 b3
   have X2 := q01 X2 b3
   have Y3 := fun j => cell_of_row w3 (w.heap.size + 1) j _ _ _ X3
   have W3 := Kept.mk (W2.out.trans (b3.mono W2.out.size))
   have HE := fun j u (hu : e.cs[j]? = some u) => (W3.out.cell (p := ⟨b, o + j, none⟩) hbb).trans (HEL.out j u hu)
   obtain ⟨n0, n1, n2, n3, n4, n5, n6, n7⟩ := e
   have c0 := HE 0 _ rfl
   have c1 := HE 1 _ rfl
   have c2 := HE 2 _ rfl
   have c3 := HE 3 _ rfl
   have c4 := HE 4 _ rfl
   have c5 := HE 5 _ rfl
   have c6 := HE 6 _ rfl
   have c7 := HE 7 _ rfl
   simp only [Nat.add_zero] at c0
   clear W2 b3 HE HEL
   go_upto_region 4 with (fail)
   have bE := q00 w3 (.cells #[.int .i64 n0, .int .i64 n1, .int .i64 n2, .int .i64 n3, .int .i64 n4, .bool n5, .bool n6, .bool n7] 55)
   have X2 := q01 X2 bE
   have XE := heap_alloc_new w3 (.cells #[.int .i64 n0, .int .i64 n1, .int .i64 n2, .int .i64 n3, .int .i64 n4, .bool n5, .bool n6, .bool n7] 55)
   have W4 := Kept.mk (W3.out.trans (bE.mono W3.out.size))
   clear Y3 c0 c1 c2 c3 c4 c5 c6 c7 W3 bE X3
   generalize w3.alloc (.cells #[.int .i64 n0, .int .i64 n1, .int .i64 n2, .int .i64 n3, .int .i64 n4, .bool n5, .bool n6, .bool n7] 55) = w4 at *
   have Y2 := fun j => cell_of_row w4 w.heap.size j _ _ _ X2
   have YE := fun j => cell_of_row w4 w3.heap.size j _ _ _ XE
   go_wp2_with fail
   refine (HAT.out _ (HP.out.past W4.out)).mono ?_
   rintro en w5 ⟨rfl, b5⟩
   have XE := q01 XE b5
   have YE := fun j => cell_of_row w5 w3.heap.size j _ _ _ XE
   have W5 := Kept.mk (W4.out.trans (b5.mono W4.out.size))
   obtain ⟨kind, op, xd, ar, an, br, bn, name, target⟩ := x
   clear Y2 X2 W4 b5 XE
   have hR := HRES.out
   clear HRES
   simp only [canRetE] at hR
   have HR := Kept.mk hR
   clear hR
   by_cases hk10 : kind = 10
   ·subst hk10
    have hv : true = R := by rw [← HR.out]; cases n5 <;> rfl
    clear HR
    subst hv
    go_wp2_with fail
    go_ret
    exact ⟨rfl, W5.out⟩
   ·have k10 : (kind == 10) = false := by simpa using hk10
    by_cases hk3 : kind = 3
    ·subst hk3
     cases n5
     ·have hv : false = R := by rw [← HR.out]; cases n6 <;> rfl
      clear HR
      subst hv
      go_wp2_with fail
      go_ret
      exact ⟨rfl, W5.out⟩
     ·have hv : n6 = R := by rw [← HR.out]; cases n6 <;> rfl
      clear HR
      subst hv
      go_wp2_with fail
      go_ret
      exact ⟨rfl, W5.out⟩
    ·have k3 : (kind == 3) = false := by simpa using hk3
     have k3' : (kind != 3) = true := by simpa using hk3
     have hv : n5 = R := by rw [← HR.out, k10, k3']; simp
     clear hk3 hk10 HR k3'
     subst hv
     go_wp2_with fail
     go_ret
     exact ⟨rfl, W5.out⟩
  ·have hf' : decide (fin ≠ 0) = true := by simpa using hf
   rw [decide_eq_false hf]
   simp only [Bool.false_and]
   generalize (e :: t).length = n at *
   have bb := (q00 w (.cells #[.int .i64 p.W, .int .i64 p.window, .int .i64 p.fuel, .int .i64 p.r0, .int .i64 p.r1, .int .i64 p.r2, .int .i64 p.r3, p.mems, p.labels, .slice p.A p.n p.c] 33)).alloc (by simp) (.cells #[.int .i64 r0, .int .i64 r1, .int .i64 r2, .int .i64 r3, .slice mA mN mC, .slice sA sN sC, .int .i64 pc, .slice (some ⟨b, o, none⟩) n bC, .slice qA qN qC, .int .i64 fin] 41)
   have X3 := heap_alloc2_new w (.cells #[.int .i64 p.W, .int .i64 p.window, .int .i64 p.fuel, .int .i64 p.r0, .int .i64 p.r1, .int .i64 p.r2, .int .i64 p.r3, p.mems, p.labels, .slice p.A p.n p.c] 33) (.cells #[.int .i64 r0, .int .i64 r1, .int .i64 r2, .int .i64 r3, .slice mA mN mC, .slice sA sN sC, .int .i64 pc, .slice (some ⟨b, o, none⟩) n bC, .slice qA qN qC, .int .i64 fin] 41)
   have X2 := q01 (heap_alloc_new w (.cells #[.int .i64 p.W, .int .i64 p.window, .int .i64 p.fuel, .int .i64 p.r0, .int .i64 p.r1, .int .i64 p.r2, .int .i64 p.r3, p.mems, p.labels, .slice p.A p.n p.c] 33)) (q00 _ (.cells #[.int .i64 r0, .int .i64 r1, .int .i64 r2, .int .i64 r3, .slice mA mN mC, .slice sA sN sC, .int .i64 pc, .slice (some ⟨b, o, none⟩) n bC, .slice qA qN qC, .int .i64 fin] 41))
   have S2 : ((w.alloc (.cells #[.int .i64 p.W, .int .i64 p.window, .int .i64 p.fuel, .int .i64 p.r0, .int .i64 p.r1, .int .i64 p.r2, .int .i64 p.r3, p.mems, p.labels, .slice p.A p.n p.c] 33)).alloc (.cells #[.int .i64 r0, .int .i64 r1, .int .i64 r2, .int .i64 r3, .slice mA mN mC, .slice sA sN sC, .int .i64 pc, .slice (some ⟨b, o, none⟩) n bC, .slice qA qN qC, .int .i64 fin] 41)).heap.size = w.heap.size + 2 := by simp
   go_enter Try.func29, Try.ntmps29
   go_upto_region 1 with (fail)
   have W2 := Kept.mk bb
   clear bb
   generalize (w.alloc (.cells #[.int .i64 p.W, .int .i64 p.window, .int .i64 p.fuel, .int .i64 p.r0, .int .i64 p.r1, .int .i64 p.r2, .int .i64 p.r3, p.mems, p.labels, .slice p.A p.n p.c] 33)).alloc (.cells #[.int .i64 r0, .int .i64 r1, .int .i64 r2, .int .i64 r3, .slice mA mN mC, .slice sA sN sC, .int .i64 pc, .slice (some ⟨b, o, none⟩) n bC, .slice qA qN qC, .int .i64 fin] 41) = w2 at *
   have Y3 := fun j => cell_of_row w2 (w.heap.size + 1) j _ _ _ X3
   go_wp2_with fail
   refine (final_is ⟨⟨r0, r1, r2, r3, ⟨mA, mN, mC⟩, ⟨sA, sN, sC⟩, pc⟩, ⟨some ⟨b, o, none⟩, n, bC⟩, ⟨qA, qN, qC⟩, fin⟩ w2 true hf').mono ?_
   rintro en w3 ⟨rfl, b3⟩
   have W3 := Kept.mk (W2.out.trans (b3.mono W2.out.size))
   clear W2 b3
   go_wp2_with fail
   go_ret
   exact ⟨rfl, W3.out⟩
end
section
def commitOf (m : Conf) (e : Ent) (x : Inst) : Conf :=
 if x.kind = 1 ∨ x.kind = 2 ∨ x.kind = 4 then { m with st := setReg m.st x.d e.val }
 else if x.kind = 3 then { m with st := { m.st with mem := m.st.mem.set e.addr.toNat e.val } }
 else if x.kind = 8 then { m with st := { m.st with stack := m.st.stack ++ [e.pc + 1] } }
 else if x.kind = 9 then { m with st := { m.st with stack := m.st.stack.dropLast } }
 else m
def endConf (m : Conf) (e : Ent) (n : Int) : Conf := { st := { m.st with pc := e.pc }, buf := [], rsb := [], fin := n }
theorem retireOf_eq {il : List Inst} {m : Conf} {e : Ent} {t : List Ent} (h : m.buf = e :: t) : retireOf il m = if endOf (instAt il e.pc) e ≠ 0 then endConf m e (endOf (instAt il e.pc) e) else commitOf { m with buf := popEnts (e :: t), fin := m.fin } e (instAt il e.pc) := by
 unfold retireOf endOf commitOf endConf
 rw [h]
 simp only
 generalize instAt il e.pc = x
 by_cases c1 : e.fault = true ∨ x.kind = 12
 ·rw [if_pos c1, if_pos c1, if_pos (by decide)]
 rw [if_neg c1, if_neg c1]
 by_cases c2 : x.kind = 11
 ·rw [if_pos c2, if_pos c2, if_pos (by decide)]
 rw [if_neg c2, if_neg c2, if_neg (show ¬ ((0 : Int) ≠ 0) by decide)]
theorem pcommit_any (b B : Nat) (c : Cnf) (m : Conf) (e : Ent) (x : Inst) (w : World) (hb : w.heap[b]? = some (.cells c.cs.toArray 41 (0, 0))) (hbB : b < B) (hB : B ≤ w.heap.size) (ho : CfOwn w B c m)
  (h3 : x.kind = 3 → 0 ≤ e.addr ∧ e.addr < m.st.mem.length) (h9 : x.kind = 9 → m.st.stack ≠ []) (hpc : -2 ≤ e.pc ∧ e.pc ≤ 1000000) (hd : 0 ≤ x.d ∧ x.d ≤ 3) (hsl : m.st.stack.length ≤ 1000) :
  Calls Try.prog 66 #[.pointer (some ⟨b, 0, none⟩), e.v, x.v] w (PCom b B (commitOf m e x) w) := by
 unfold commitOf
 by_cases c1 : x.kind = 1 ∨ x.kind = 2 ∨ x.kind = 4
 ·rw [if_pos c1]; exact pcommit_reg b B c m e x w hb hbB hB ho c1 hd
 rw [if_neg c1]
 by_cases c3 : x.kind = 3
 ·rw [if_pos c3]; exact pcommit_store b B c m e x w hb hbB hB ho c3 (h3 c3)
 rw [if_neg c3]
 by_cases c8 : x.kind = 8
 ·rw [if_pos c8]; exact pcommit_call b B c m e x w hb hbB hB ho c8 hpc hsl
 rw [if_neg c8]
 by_cases c9 : x.kind = 9
 ·rw [if_pos c9]; exact pcommit_ret b B c m e x w hb hbB hB ho c9 (h9 c9) hsl
 rw [if_neg c9]
 exact pcommit_rest b B c m e x w hb hbB hB ho (by omega) (by omega) c3 (by omega) c8 c9
theorem dj_none {u : Value} : Dj u (.slice none 0 0) := fun _ _ h => by simp [blocksOf, Value.ownBlock] at h
theorem CfOwn.putBuf {w w' : World} {B : Nat} {c : Cnf} {m : Conf} (h : CfOwn w B c m) (s : Sl) (l : List Ent) (f : Int) (hb : Below w.heap.size w w') (hv : OwnE w' w.heap.size (.slice s.A s.n s.c) l) (hB : B ≤ w.heap.size) :
  CfOwn w' B { c with buf := s, fin := f } { m with buf := l, fin := f } := by
 have h' := h.past hb
 have nw : ∀ k, (Value.slice s.A s.n s.c).ownBlock = some k → w.heap.size ≤ k := fun k hk => (World.ownsRow.lt hv k hk).1
 have sep : ∀ {A : Option Addr} {n c : Nat} {e : TypeId} {size k : Nat} {xs : List Value}, w.ownsRow B e size (.slice A n c) k xs → Dj (.slice s.A s.n s.c) (.slice A n c) := fun ho => dj_of_own fun k hk hk' => by
  have h1 := nw k hk
  have h2 := (World.ownsRow.lt ho k hk').2
  omega
 exact ⟨h'.st, hv.lower hB, h'.rsb, rfl, dj_st (sep h.st.mem).symm (sep h.st.stack).symm, h.djq, sep h.rsb⟩
theorem CfOwn.ended {w : World} {B : Nat} {c : Cnf} {m : Conf} (h : CfOwn w B c m) (e : Ent) (f : Int) : CfOwn w B { c with st := { c.st with pc := e.pc }, buf := Sl.none, rsb := Sl.none, fin := f } (endConf m e f) :=
 ⟨⟨h.st.r0, h.st.r1, h.st.r2, h.st.r3, h.st.mem, h.st.stack, rfl, h.st.dj⟩, OwnE.nil, OwnI.nil, rfl, dj_none, dj_none, dj_none⟩
def CfGotO (x : Option Conf) (w : World) (en : Ending) (w' : World) : Prop := ∃ c : Cnf, en = .returned (.tuple #[c.v, .bool x.isSome]) ∧ CfOwn w' w.heap.size c (x.getD Conf.zero) ∧ Below w.heap.size w w'
def retQ (il : List Inst) (m : Conf) : Option Conf := if canRetOf il m = true then some (retireOf il m) else none
theorem CfOwn.zero {w : World} {B : Nat} : CfOwn w B Cnf.zero Conf.zero := ⟨⟨rfl, rfl, rfl, rfl, OwnI.nil, OwnI.nil, rfl, dj_none⟩, OwnE.nil, OwnI.nil, rfl, dj_none, dj_none, dj_none⟩
set_option maxRecDepth 100000 in
set_option maxHeartbeats 1600000 in
theorem pretire_no (p : Prg) (il : List Inst) (c : Cnf) (m : Conf) (w : World) (hp : PIs w p il) (hc : CfIs w c m) (hbl : m.buf.length ≤ 1000) (hcan : canRetOf il m = false) :
  Calls Try.prog 28 #[p.v, c.v] w (fun en w' => en = .returned (.tuple #[Cnf.zero.v, .bool false]) ∧ Below w.heap.size w w') := by
 have HP := Kept.mk hp
 have HC := Kept.mk hc
 have HG : Kept (∀ w1, PIs w1 p il → CfIs w1 c m → Calls Try.prog 29 #[p.v, c.v] w1 fun en w' => en = .returned (.bool false) ∧ Below w1.heap.size w1 w') := ⟨fun w1 h1 h2 => by rw [← hcan]; exact pcan_any p il c m w1 h1 h2 (by omega)⟩
 obtain ⟨⟨r0, r1, r2, r3, ⟨mA, mN, mC⟩, ⟨sA, sN, sC⟩, pc⟩, ⟨bA, bN, bC⟩, ⟨qA, qN, qC⟩, fin⟩ := c
 clear hp hc hcan
 have bb := ((q00 w (.cells #[.int .i64 p.W, .int .i64 p.window, .int .i64 p.fuel, .int .i64 p.r0, .int .i64 p.r1, .int .i64 p.r2, .int .i64 p.r3, p.mems, p.labels, .slice p.A p.n p.c] 33)).alloc (by simp) (.cells #[.int .i64 r0, .int .i64 r1, .int .i64 r2, .int .i64 r3, .slice mA mN mC, .slice sA sN sC, .int .i64 pc, .slice bA bN bC, .slice qA qN qC, .int .i64 fin] 41)).alloc (by simp; omega) (.cells #[.int .i64 0, .int .i64 0, .int .i64 0, .int .i64 0, .slice none 0 0, .slice none 0 0, .int .i64 0, .slice none 0 0, .slice none 0 0, .int .i64 0] 41)
 have X6 : (((w.alloc (.cells #[.int .i64 p.W, .int .i64 p.window, .int .i64 p.fuel, .int .i64 p.r0, .int .i64 p.r1, .int .i64 p.r2, .int .i64 p.r3, p.mems, p.labels, .slice p.A p.n p.c] 33)).alloc (.cells #[.int .i64 r0, .int .i64 r1, .int .i64 r2, .int .i64 r3, .slice mA mN mC, .slice sA sN sC, .int .i64 pc, .slice bA bN bC, .slice qA qN qC, .int .i64 fin] 41)).alloc (.cells #[.int .i64 0, .int .i64 0, .int .i64 0, .int .i64 0, .slice none 0 0, .slice none 0 0, .int .i64 0, .slice none 0 0, .slice none 0 0, .int .i64 0] 41)).heap[w.heap.size + 2]? = some (.cells #[.int .i64 0, .int .i64 0, .int .i64 0, .int .i64 0, .slice none 0 0, .slice none 0 0, .int .i64 0, .slice none 0 0, .slice none 0 0, .int .i64 0] 41) := q06 (W := (w.alloc (.cells #[.int .i64 p.W, .int .i64 p.window, .int .i64 p.fuel, .int .i64 p.r0, .int .i64 p.r1, .int .i64 p.r2, .int .i64 p.r3, p.mems, p.labels, .slice p.A p.n p.c] 33)).alloc (.cells #[.int .i64 r0, .int .i64 r1, .int .i64 r2, .int .i64 r3, .slice mA mN mC, .slice sA sN sC, .int .i64 pc, .slice bA bN bC, .slice qA qN qC, .int .i64 fin] 41)) (o := (.cells #[.int .i64 0, .int .i64 0, .int .i64 0, .int .i64 0, .slice none 0 0, .slice none 0 0, .int .i64 0, .slice none 0 0, .slice none 0 0, .int .i64 0] 41)) (g := w.heap.size + 2) (by simp)
 have X3 : (((w.alloc (.cells #[.int .i64 p.W, .int .i64 p.window, .int .i64 p.fuel, .int .i64 p.r0, .int .i64 p.r1, .int .i64 p.r2, .int .i64 p.r3, p.mems, p.labels, .slice p.A p.n p.c] 33)).alloc (.cells #[.int .i64 r0, .int .i64 r1, .int .i64 r2, .int .i64 r3, .slice mA mN mC, .slice sA sN sC, .int .i64 pc, .slice bA bN bC, .slice qA qN qC, .int .i64 fin] 41)).alloc (.cells #[.int .i64 0, .int .i64 0, .int .i64 0, .int .i64 0, .slice none 0 0, .slice none 0 0, .int .i64 0, .slice none 0 0, .slice none 0 0, .int .i64 0] 41)).heap[w.heap.size]? = some (.cells #[.int .i64 p.W, .int .i64 p.window, .int .i64 p.fuel, .int .i64 p.r0, .int .i64 p.r1, .int .i64 p.r2, .int .i64 p.r3, p.mems, p.labels, .slice p.A p.n p.c] 33) := q01 (q01 (heap_alloc_new w (.cells #[.int .i64 p.W, .int .i64 p.window, .int .i64 p.fuel, .int .i64 p.r0, .int .i64 p.r1, .int .i64 p.r2, .int .i64 p.r3, p.mems, p.labels, .slice p.A p.n p.c] 33)) (q00 _ (.cells #[.int .i64 r0, .int .i64 r1, .int .i64 r2, .int .i64 r3, .slice mA mN mC, .slice sA sN sC, .int .i64 pc, .slice bA bN bC, .slice qA qN qC, .int .i64 fin] 41))) (q00 _ (.cells #[.int .i64 0, .int .i64 0, .int .i64 0, .int .i64 0, .slice none 0 0, .slice none 0 0, .int .i64 0, .slice none 0 0, .slice none 0 0, .int .i64 0] 41))
 have X4 : (((w.alloc (.cells #[.int .i64 p.W, .int .i64 p.window, .int .i64 p.fuel, .int .i64 p.r0, .int .i64 p.r1, .int .i64 p.r2, .int .i64 p.r3, p.mems, p.labels, .slice p.A p.n p.c] 33)).alloc (.cells #[.int .i64 r0, .int .i64 r1, .int .i64 r2, .int .i64 r3, .slice mA mN mC, .slice sA sN sC, .int .i64 pc, .slice bA bN bC, .slice qA qN qC, .int .i64 fin] 41)).alloc (.cells #[.int .i64 0, .int .i64 0, .int .i64 0, .int .i64 0, .slice none 0 0, .slice none 0 0, .int .i64 0, .slice none 0 0, .slice none 0 0, .int .i64 0] 41)).heap[w.heap.size + 1]? = some (.cells #[.int .i64 r0, .int .i64 r1, .int .i64 r2, .int .i64 r3, .slice mA mN mC, .slice sA sN sC, .int .i64 pc, .slice bA bN bC, .slice qA qN qC, .int .i64 fin] 41) := q01 (heap_alloc2_new w (.cells #[.int .i64 p.W, .int .i64 p.window, .int .i64 p.fuel, .int .i64 p.r0, .int .i64 p.r1, .int .i64 p.r2, .int .i64 p.r3, p.mems, p.labels, .slice p.A p.n p.c] 33) (.cells #[.int .i64 r0, .int .i64 r1, .int .i64 r2, .int .i64 r3, .slice mA mN mC, .slice sA sN sC, .int .i64 pc, .slice bA bN bC, .slice qA qN qC, .int .i64 fin] 41)) (q00 _ (.cells #[.int .i64 0, .int .i64 0, .int .i64 0, .int .i64 0, .slice none 0 0, .slice none 0 0, .int .i64 0, .slice none 0 0, .slice none 0 0, .int .i64 0] 41))
 go_enter Try.func28, Try.ntmps28
 go_upto_region 1 with (fail)
 have W2 := Kept.mk bb
 clear bb
 generalize ((w.alloc (.cells #[.int .i64 p.W, .int .i64 p.window, .int .i64 p.fuel, .int .i64 p.r0, .int .i64 p.r1, .int .i64 p.r2, .int .i64 p.r3, p.mems, p.labels, .slice p.A p.n p.c] 33)).alloc (.cells #[.int .i64 r0, .int .i64 r1, .int .i64 r2, .int .i64 r3, .slice mA mN mC, .slice sA sN sC, .int .i64 pc, .slice bA bN bC, .slice qA qN qC, .int .i64 fin] 41)).alloc (.cells #[.int .i64 0, .int .i64 0, .int .i64 0, .int .i64 0, .slice none 0 0, .slice none 0 0, .int .i64 0, .slice none 0 0, .slice none 0 0, .int .i64 0] 41) = w2 at *
 have K6 := Kept.mk X6
 have Y3 := fun j => cell_of_row w2 w.heap.size j _ _ _ X3
 have Y4 := fun j => cell_of_row w2 (w.heap.size + 1) j _ _ _ X4
 have Y6 := fun j => cell_of_row w2 (w.heap.size + 2) j _ _ _ X6
 have F6 := fun j => frozen_of_row w2 (w.heap.size + 2) j _ _ X6
 go_wp2_with fail
 refine (HG.out _ (HP.out.past W2.out) (HC.out.past W2.out)).mono ?_
 rintro en w3 ⟨rfl, b3⟩
 have X6 := q01 X6 b3
 have K6 := Kept.mk X6
 have Y6 := fun j => cell_of_row w3 (w.heap.size + 2) j _ _ _ X6
 have F6 := fun j => frozen_of_row w3 (w.heap.size + 2) j _ _ X6
 have W3 := Kept.mk (W2.out.trans (b3.mono W2.out.size))
 clear X6 b3
 go_wp2_with fail
 have x4 := q11 (w := w3) (g := w.heap.size + 2) Cnf.zero Cnf.zero K6.out
 have wb := below10 (g := w.heap.size + 2) Cnf.zero W3.out (by omega)
 refine q0C _ [Cnf.v Cnf.zero, .bool false] Try.results28 (.cons (.cell (cs := Cnf.cs Cnf.zero) (b := w.heap.size + 2) (off := 0) rfl rfl (q05 x4) Try.underlying41 rfl (by kernel_rfl)) (.cons (.tmp rfl) .nil)) rfl ?_
 exact ⟨rfl, wb⟩
set_option maxRecDepth 100000 in
set_option maxHeartbeats 1600000 in
theorem pretire_yes (p : Prg) (il : List Inst) (c : Cnf) (m : Conf) (w : World) (hp : PIs w p il) (hc : CfIs w c m)
  (hml : m.st.mem.length ≤ 1000) (hsl : m.st.stack.length ≤ 1000) (hbl : m.buf.length ≤ 1000) (hrl : m.rsb.length ≤ 1000) (hsm : Small m.buf) (hfit : retFit il m) (hcan : canRetOf il m = true) :
  Calls Try.prog 28 #[p.v, c.v] w (fun en w' => ∃ c' : Cnf, en = .returned (.tuple #[c'.v, .bool true]) ∧ CfOwn w' w.heap.size c' (retireOf il m) ∧ Below w.heap.size w w') := by
 have HP := Kept.mk hp
 have HC := Kept.mk hc
 have HG : Kept (∀ w1, PIs w1 p il → CfIs w1 c m → Calls Try.prog 29 #[p.v, c.v] w1 fun en w' => en = .returned (.bool true) ∧ Below w1.heap.size w1 w') := ⟨fun w1 h1 h2 => by rw [← hcan]; exact pcan_any p il c m w1 h1 h2 (by omega)⟩
 have HS := Kept.mk (fun w1 h1 => cstill_any c m w1 h1 hml hsl hbl hrl)
 obtain ⟨e, t, hbuf, hfin0, -, -⟩ := q2E hcan
 have HRE := Kept.mk (retireOf_eq (il := il) hbuf)
 obtain ⟨hf3, hf9, hfpc, hfd⟩ := hfit e t hbuf
 have hbl' : t.length + 1 ≤ 1000 := by rw [hbuf] at hbl; simpa using hbl
 have HBUF := Kept.mk hbuf
 have HFIN := Kept.mk hfin0
 have HSM : Kept (Small (e :: t)) := ⟨hbuf ▸ hsm⟩
 have HAT : Kept (∀ w1, PIs w1 p il → Calls Try.prog 61 #[p.v, .int .i64 e.pc] w1 fun en w' => en = .returned (instAt il e.pc).v ∧ Below w1.heap.size w1 w') := ⟨fun w1 h => at8 p il e.pc w1 h⟩
 obtain ⟨⟨r0, r1, r2, r3, ⟨mA, mN, mC⟩, ⟨sA, sN, sC⟩, pc⟩, ⟨bA, bN, bC⟩, ⟨qA, qN, qC⟩, fin⟩ := c
 generalize retireOf il m = RES at HRE ⊢
 generalize instAt il e.pc = x at *
 have HF3 := Kept.mk hf3
 have HF9 := Kept.mk hf9
 have hx0 := Kept.mk (show endOf x e = 0 → e.fault = false from fun h => by
  cases hef : e.fault with
  | false => rfl
  | true => rw [endOf, if_pos (.inl hef)] at h; cases h)
 clear hp hc hcan hfit hsm hbuf hbl hf3 hf9 hfin0
 have bb := ((q00 w (.cells #[.int .i64 p.W, .int .i64 p.window, .int .i64 p.fuel, .int .i64 p.r0, .int .i64 p.r1, .int .i64 p.r2, .int .i64 p.r3, p.mems, p.labels, .slice p.A p.n p.c] 33)).alloc (by simp) (.cells #[.int .i64 r0, .int .i64 r1, .int .i64 r2, .int .i64 r3, .slice mA mN mC, .slice sA sN sC, .int .i64 pc, .slice bA bN bC, .slice qA qN qC, .int .i64 fin] 41)).alloc (by simp; omega) (.cells #[.int .i64 0, .int .i64 0, .int .i64 0, .int .i64 0, .slice none 0 0, .slice none 0 0, .int .i64 0, .slice none 0 0, .slice none 0 0, .int .i64 0] 41)
 have X6 : (((w.alloc (.cells #[.int .i64 p.W, .int .i64 p.window, .int .i64 p.fuel, .int .i64 p.r0, .int .i64 p.r1, .int .i64 p.r2, .int .i64 p.r3, p.mems, p.labels, .slice p.A p.n p.c] 33)).alloc (.cells #[.int .i64 r0, .int .i64 r1, .int .i64 r2, .int .i64 r3, .slice mA mN mC, .slice sA sN sC, .int .i64 pc, .slice bA bN bC, .slice qA qN qC, .int .i64 fin] 41)).alloc (.cells #[.int .i64 0, .int .i64 0, .int .i64 0, .int .i64 0, .slice none 0 0, .slice none 0 0, .int .i64 0, .slice none 0 0, .slice none 0 0, .int .i64 0] 41)).heap[w.heap.size + 2]? = some (.cells #[.int .i64 0, .int .i64 0, .int .i64 0, .int .i64 0, .slice none 0 0, .slice none 0 0, .int .i64 0, .slice none 0 0, .slice none 0 0, .int .i64 0] 41) := q06 (W := (w.alloc (.cells #[.int .i64 p.W, .int .i64 p.window, .int .i64 p.fuel, .int .i64 p.r0, .int .i64 p.r1, .int .i64 p.r2, .int .i64 p.r3, p.mems, p.labels, .slice p.A p.n p.c] 33)).alloc (.cells #[.int .i64 r0, .int .i64 r1, .int .i64 r2, .int .i64 r3, .slice mA mN mC, .slice sA sN sC, .int .i64 pc, .slice bA bN bC, .slice qA qN qC, .int .i64 fin] 41)) (o := (.cells #[.int .i64 0, .int .i64 0, .int .i64 0, .int .i64 0, .slice none 0 0, .slice none 0 0, .int .i64 0, .slice none 0 0, .slice none 0 0, .int .i64 0] 41)) (g := w.heap.size + 2) (by simp)
 have X3 : (((w.alloc (.cells #[.int .i64 p.W, .int .i64 p.window, .int .i64 p.fuel, .int .i64 p.r0, .int .i64 p.r1, .int .i64 p.r2, .int .i64 p.r3, p.mems, p.labels, .slice p.A p.n p.c] 33)).alloc (.cells #[.int .i64 r0, .int .i64 r1, .int .i64 r2, .int .i64 r3, .slice mA mN mC, .slice sA sN sC, .int .i64 pc, .slice bA bN bC, .slice qA qN qC, .int .i64 fin] 41)).alloc (.cells #[.int .i64 0, .int .i64 0, .int .i64 0, .int .i64 0, .slice none 0 0, .slice none 0 0, .int .i64 0, .slice none 0 0, .slice none 0 0, .int .i64 0] 41)).heap[w.heap.size]? = some (.cells #[.int .i64 p.W, .int .i64 p.window, .int .i64 p.fuel, .int .i64 p.r0, .int .i64 p.r1, .int .i64 p.r2, .int .i64 p.r3, p.mems, p.labels, .slice p.A p.n p.c] 33) := q01 (q01 (heap_alloc_new w (.cells #[.int .i64 p.W, .int .i64 p.window, .int .i64 p.fuel, .int .i64 p.r0, .int .i64 p.r1, .int .i64 p.r2, .int .i64 p.r3, p.mems, p.labels, .slice p.A p.n p.c] 33)) (q00 _ (.cells #[.int .i64 r0, .int .i64 r1, .int .i64 r2, .int .i64 r3, .slice mA mN mC, .slice sA sN sC, .int .i64 pc, .slice bA bN bC, .slice qA qN qC, .int .i64 fin] 41))) (q00 _ (.cells #[.int .i64 0, .int .i64 0, .int .i64 0, .int .i64 0, .slice none 0 0, .slice none 0 0, .int .i64 0, .slice none 0 0, .slice none 0 0, .int .i64 0] 41))
 have X4 : (((w.alloc (.cells #[.int .i64 p.W, .int .i64 p.window, .int .i64 p.fuel, .int .i64 p.r0, .int .i64 p.r1, .int .i64 p.r2, .int .i64 p.r3, p.mems, p.labels, .slice p.A p.n p.c] 33)).alloc (.cells #[.int .i64 r0, .int .i64 r1, .int .i64 r2, .int .i64 r3, .slice mA mN mC, .slice sA sN sC, .int .i64 pc, .slice bA bN bC, .slice qA qN qC, .int .i64 fin] 41)).alloc (.cells #[.int .i64 0, .int .i64 0, .int .i64 0, .int .i64 0, .slice none 0 0, .slice none 0 0, .int .i64 0, .slice none 0 0, .slice none 0 0, .int .i64 0] 41)).heap[w.heap.size + 1]? = some (.cells #[.int .i64 r0, .int .i64 r1, .int .i64 r2, .int .i64 r3, .slice mA mN mC, .slice sA sN sC, .int .i64 pc, .slice bA bN bC, .slice qA qN qC, .int .i64 fin] 41) := q01 (heap_alloc2_new w (.cells #[.int .i64 p.W, .int .i64 p.window, .int .i64 p.fuel, .int .i64 p.r0, .int .i64 p.r1, .int .i64 p.r2, .int .i64 p.r3, p.mems, p.labels, .slice p.A p.n p.c] 33) (.cells #[.int .i64 r0, .int .i64 r1, .int .i64 r2, .int .i64 r3, .slice mA mN mC, .slice sA sN sC, .int .i64 pc, .slice bA bN bC, .slice qA qN qC, .int .i64 fin] 41)) (q00 _ (.cells #[.int .i64 0, .int .i64 0, .int .i64 0, .int .i64 0, .slice none 0 0, .slice none 0 0, .int .i64 0, .slice none 0 0, .slice none 0 0, .int .i64 0] 41))
 go_enter Try.func28, Try.ntmps28
 go_upto_region 1 with (fail)
 have W2 := Kept.mk bb
 clear bb
 generalize ((w.alloc (.cells #[.int .i64 p.W, .int .i64 p.window, .int .i64 p.fuel, .int .i64 p.r0, .int .i64 p.r1, .int .i64 p.r2, .int .i64 p.r3, p.mems, p.labels, .slice p.A p.n p.c] 33)).alloc (.cells #[.int .i64 r0, .int .i64 r1, .int .i64 r2, .int .i64 r3, .slice mA mN mC, .slice sA sN sC, .int .i64 pc, .slice bA bN bC, .slice qA qN qC, .int .i64 fin] 41)).alloc (.cells #[.int .i64 0, .int .i64 0, .int .i64 0, .int .i64 0, .slice none 0 0, .slice none 0 0, .int .i64 0, .slice none 0 0, .slice none 0 0, .int .i64 0] 41) = w2 at *
 have K6 := Kept.mk X6
 have Y3 := fun j => cell_of_row w2 w.heap.size j _ _ _ X3
 have Y4 := fun j => cell_of_row w2 (w.heap.size + 1) j _ _ _ X4
 have Y6 := fun j => cell_of_row w2 (w.heap.size + 2) j _ _ _ X6
 have F6 := fun j => frozen_of_row w2 (w.heap.size + 2) j _ _ X6
 go_wp2_with fail
 refine (HG.out _ (HP.out.past W2.out) (HC.out.past W2.out)).mono ?_
 rintro en w3 ⟨rfl, b3⟩
 have X3 := q01 X3 b3
 have X4 := q01 X4 b3
 have X6 := q01 X6 b3
 have W3 := Kept.mk (W2.out.trans (b3.mono W2.out.size))
 clear Y3 Y4 W2 b3 HG Y6 F6 K6
 have Y3 := fun j => cell_of_row w3 w.heap.size j _ _ _ X3
 have Y4 := fun j => cell_of_row w3 (w.heap.size + 1) j _ _ _ X4
 go_wp2_with fail
 refine (HS.out _ (HC.out.past W3.out)).mono ?_
 rintro en w4 ⟨c1, rfl, ho, b4⟩
 have X3 := q01 X3 b4
 have X4 := q01 X4 b4
 have X6 := q01 X6 b4
 have W4 := Kept.mk (W3.out.trans (b4.mono W3.out.size))
 have hs3 : w.heap.size + 2 < w3.heap.size := (Array.getElem?_eq_some_iff.1 (show w3.heap[w.heap.size + 2]? = _ from by assumption)).1
 have hs4 : w.heap.size + 2 < w4.heap.size := by have := b4.size; omega
 obtain ⟨⟨t0, t1, t2, t3, ⟨eA, eN, eC⟩, ⟨fA, fN, fC⟩, tpc⟩, ⟨gA, gN, gC⟩, ⟨hA, hN, hC⟩, tf⟩ := c1
 have hgn : gN = t.length + 1 := by have h := ho.is.buf.n; rw [HBUF.out] at h; simpa using h
 have hgc : gN ≤ gC := ho.is.buf.c
 have htf : tf = 0 := ho.fin.trans HFIN.out
 subst hgn htf
 have Y4 := fun j => cell_of_row w4 (w.heap.size + 1) j _ _ _ X4
 have F4 := fun j => frozen_of_row w4 (w.heap.size + 1) j _ _ X4
 clear Y3 b4 W3 HS
 go_upto_region 4 with (fail)
 have x4 := q11 (w := w4) (g := w.heap.size + 1) ⟨⟨r0, r1, r2, r3, ⟨mA, mN, mC⟩, ⟨sA, sN, sC⟩, pc⟩, ⟨bA, bN, bC⟩, ⟨qA, qN, qC⟩, fin⟩ ⟨⟨t0, t1, t2, t3, ⟨eA, eN, eC⟩, ⟨fA, fN, fC⟩, tpc⟩, ⟨gA, t.length + 1, gC⟩, ⟨hA, hN, hC⟩, 0⟩ X4
 have wb := below10 (g := w.heap.size + 1) ⟨⟨t0, t1, t2, t3, ⟨eA, eN, eC⟩, ⟨fA, fN, fC⟩, tpc⟩, ⟨gA, t.length + 1, gC⟩, ⟨hA, hN, hC⟩, 0⟩ W4.out (by omega)
 have x3 : ((((((((((w4.setCell ⟨w.heap.size + 1, 0, none⟩ (.int .i64 t0)).setCell ⟨w.heap.size + 1, 1, none⟩ (.int .i64 t1)).setCell ⟨w.heap.size + 1, 2, none⟩ (.int .i64 t2)).setCell ⟨w.heap.size + 1, 3, none⟩ (.int .i64 t3)).setCell ⟨w.heap.size + 1, 4, none⟩ (.slice eA eN eC)).setCell ⟨w.heap.size + 1, 5, none⟩ (.slice fA fN fC)).setCell ⟨w.heap.size + 1, 6, none⟩ (.int .i64 tpc)).setCell ⟨w.heap.size + 1, 7, none⟩ (.slice gA (t.length + 1) gC)).setCell ⟨w.heap.size + 1, 8, none⟩ (.slice hA hN hC)).setCell ⟨w.heap.size + 1, 9, none⟩ (.int .i64 0)).heap[w.heap.size]? = some (.cells #[.int .i64 p.W, .int .i64 p.window, .int .i64 p.fuel, .int .i64 p.r0, .int .i64 p.r1, .int .i64 p.r2, .int .i64 p.r3, p.mems, p.labels, .slice p.A p.n p.c] 33) := by
  iterate 10 refine q03 ?_ (by show w.heap.size + 1 ≠ w.heap.size; omega)
  exact X3
 have x6 : ((((((((((w4.setCell ⟨w.heap.size + 1, 0, none⟩ (.int .i64 t0)).setCell ⟨w.heap.size + 1, 1, none⟩ (.int .i64 t1)).setCell ⟨w.heap.size + 1, 2, none⟩ (.int .i64 t2)).setCell ⟨w.heap.size + 1, 3, none⟩ (.int .i64 t3)).setCell ⟨w.heap.size + 1, 4, none⟩ (.slice eA eN eC)).setCell ⟨w.heap.size + 1, 5, none⟩ (.slice fA fN fC)).setCell ⟨w.heap.size + 1, 6, none⟩ (.int .i64 tpc)).setCell ⟨w.heap.size + 1, 7, none⟩ (.slice gA (t.length + 1) gC)).setCell ⟨w.heap.size + 1, 8, none⟩ (.slice hA hN hC)).setCell ⟨w.heap.size + 1, 9, none⟩ (.int .i64 0)).heap[w.heap.size + 2]? = some (.cells #[.int .i64 0, .int .i64 0, .int .i64 0, .int .i64 0, .slice none 0 0, .slice none 0 0, .int .i64 0, .slice none 0 0, .slice none 0 0, .int .i64 0] 41) := by
  iterate 10 refine q03 ?_ (by show w.heap.size + 1 ≠ w.heap.size + 2; omega)
  exact X6
 have CF : CfOwn ((((((((((w4.setCell ⟨w.heap.size + 1, 0, none⟩ (.int .i64 t0)).setCell ⟨w.heap.size + 1, 1, none⟩ (.int .i64 t1)).setCell ⟨w.heap.size + 1, 2, none⟩ (.int .i64 t2)).setCell ⟨w.heap.size + 1, 3, none⟩ (.int .i64 t3)).setCell ⟨w.heap.size + 1, 4, none⟩ (.slice eA eN eC)).setCell ⟨w.heap.size + 1, 5, none⟩ (.slice fA fN fC)).setCell ⟨w.heap.size + 1, 6, none⟩ (.int .i64 tpc)).setCell ⟨w.heap.size + 1, 7, none⟩ (.slice gA (t.length + 1) gC)).setCell ⟨w.heap.size + 1, 8, none⟩ (.slice hA hN hC)).setCell ⟨w.heap.size + 1, 9, none⟩ (.int .i64 0)) (w.heap.size + 3) ⟨⟨t0, t1, t2, t3, ⟨eA, eN, eC⟩, ⟨fA, fN, fC⟩, tpc⟩, ⟨gA, t.length + 1, gC⟩, ⟨hA, hN, hC⟩, 0⟩ m := by
  iterate 10 refine CfOwn.far ?_ (by show w.heap.size + 1 < w.heap.size + 3; omega) _
  exact ho.lower (by omega)
 clear Y4 F4 X3 X4 X6 W4 ho
 generalize ((((((((((w4.setCell ⟨w.heap.size + 1, 0, none⟩ (.int .i64 t0)).setCell ⟨w.heap.size + 1, 1, none⟩ (.int .i64 t1)).setCell ⟨w.heap.size + 1, 2, none⟩ (.int .i64 t2)).setCell ⟨w.heap.size + 1, 3, none⟩ (.int .i64 t3)).setCell ⟨w.heap.size + 1, 4, none⟩ (.slice eA eN eC)).setCell ⟨w.heap.size + 1, 5, none⟩ (.slice fA fN fC)).setCell ⟨w.heap.size + 1, 6, none⟩ (.int .i64 tpc)).setCell ⟨w.heap.size + 1, 7, none⟩ (.slice gA (t.length + 1) gC)).setCell ⟨w.heap.size + 1, 8, none⟩ (.slice hA hN hC)).setCell ⟨w.heap.size + 1, 9, none⟩ (.int .i64 0)) = w5 at *
 have W5 := Kept.mk wb
 have hs5 : w.heap.size + 2 < w5.heap.size := (Array.getElem?_eq_some_iff.1 x6).1
 have Y4 := fun j => cell_of_row w5 (w.heap.size + 1) j _ _ _ x4
 simp only [Cnf.cs] at Y4
 have RB : RdE w5 gA (e :: t) := by rw [← HBUF.out]; exact CF.is.buf.r
 go_wp2_with fail
 refine (pop_some gA gC e t w5 RB hgc (by omega) (fun y hy => HSM.out y (List.mem_cons_of_mem _ hy))).mono ?_
 rintro en w6 ⟨v, rfl, hv, b6⟩
 obtain ⟨⟨vA, vN, vC⟩, rfl, hv⟩ := OwnE.sl hv
 have X3 := q01 x3 b6
 have X4 := q01 x4 b6
 have X6 := q01 x6 b6
 have CB : CfOwn w6 (w.heap.size + 3) ⟨⟨t0, t1, t2, t3, ⟨eA, eN, eC⟩, ⟨fA, fN, fC⟩, tpc⟩, ⟨vA, vN, vC⟩, ⟨hA, hN, hC⟩, endOf x e⟩ { m with buf := popEnts (e :: t), fin := endOf x e } := CfOwn.putBuf CF ⟨vA, vN, vC⟩ _ _ b6 hv (by omega)
 have CF := CF.past b6
 have W6 := Kept.mk (W5.out.trans (b6.mono W5.out.size))
 have hs6 : w.heap.size + 2 < w6.heap.size := by have := b6.size; omega
 clear hv RB W5 x3 x4 x6 Y4 b6 hs5
 obtain ⟨n0, n1, n2, n3, n4, n5, n6, n7⟩ := e
 simp only at hfpc HAT
 have Y4 := fun j => cell_of_row w6 (w.heap.size + 1) j _ _ _ X4
 simp only [Cnf.cs] at Y4
 go_upto_region 5 with (fail)
 have bE := q00 w6 (.cells #[.int .i64 n0, .int .i64 n1, .int .i64 n2, .int .i64 n3, .int .i64 n4, .bool n5, .bool n6, .bool n7] 55)
 have X3 := q01 X3 bE
 have X4 := q01 X4 bE
 have X6 := q01 X6 bE
 have XE := heap_alloc_new w6 (.cells #[.int .i64 n0, .int .i64 n1, .int .i64 n2, .int .i64 n3, .int .i64 n4, .bool n5, .bool n6, .bool n7] 55)
 have CB := CB.past bE
 have CF := CF.past bE
 have W7 := Kept.mk (W6.out.trans (bE.mono W6.out.size))
 have hs7 : w6.heap.size < (w6.alloc (.cells #[.int .i64 n0, .int .i64 n1, .int .i64 n2, .int .i64 n3, .int .i64 n4, .bool n5, .bool n6, .bool n7] 55)).heap.size := by simp
 clear Y4 W6 bE
 generalize w6.alloc (.cells #[.int .i64 n0, .int .i64 n1, .int .i64 n2, .int .i64 n3, .int .i64 n4, .bool n5, .bool n6, .bool n7] 55) = w7 at *
 obtain ⟨S6, hS6⟩ : ∃ S6, w6.heap.size = S6 := ⟨_, rfl⟩
 rw [hS6] at XE hs7 hs6 ⊢
 clear hS6
 have Y3 := fun j => cell_of_row w7 w.heap.size j _ _ _ X3
 have YE := fun j => cell_of_row w7 S6 j _ _ _ XE
 go_wp2_with fail
 refine (HAT.out _ (HP.out.past W7.out)).mono ?_
 rintro en w8 ⟨rfl, b8⟩
 have X4 := q01 X4 b8
 have X6 := q01 X6 b8
 have XE := q01 XE b8
 have CB := CB.past b8
 have CF := CF.past b8
 have W8 := Kept.mk (W7.out.trans (b8.mono W7.out.size))
 have hs8 : S6 < w8.heap.size := by have := b8.size; omega
 obtain ⟨xkind, xop, xd, xar, xan, xbr, xbn, xname, xt⟩ := x
 simp only at hfd HF3 HF9
 clear Y3 YE X3 W7 b8 hs7
 have YE := fun j => cell_of_row w8 S6 j _ _ _ XE
 go_upto_region 6 with (fail)
 have bI := q00 w8 (.cells #[.int .i64 xkind, .int .i64 xop, .int .i64 xd, .bool xar, .int .i64 xan, .bool xbr, .int .i64 xbn, .string xname, .int .i64 xt] 53)
 have X4 := q01 X4 bI
 have X6 := q01 X6 bI
 have XE := q01 XE bI
 have XI := heap_alloc_new w8 (.cells #[.int .i64 xkind, .int .i64 xop, .int .i64 xd, .bool xar, .int .i64 xan, .bool xbr, .int .i64 xbn, .string xname, .int .i64 xt] 53)
 have CB := CB.past bI
 have CF := CF.past bI
 have W9 := Kept.mk (W8.out.trans (bI.mono W8.out.size))
 have hs9 : w8.heap.size < (w8.alloc (.cells #[.int .i64 xkind, .int .i64 xop, .int .i64 xd, .bool xar, .int .i64 xan, .bool xbr, .int .i64 xbn, .string xname, .int .i64 xt] 53)).heap.size := by simp
 clear YE W8 bI
 generalize w8.alloc (.cells #[.int .i64 xkind, .int .i64 xop, .int .i64 xd, .bool xar, .int .i64 xan, .bool xbr, .int .i64 xbn, .string xname, .int .i64 xt] 53) = w9 at *
 obtain ⟨S8, hS8⟩ : ∃ S8, w8.heap.size = S8 := ⟨_, rfl⟩
 rw [hS8] at XI hs9 hs8 ⊢
 clear hS8
 have Y4 := fun j => cell_of_row w9 (w.heap.size + 1) j _ _ _ X4
 simp only [Cnf.cs] at Y4
 have F4 := fun j => frozen_of_row w9 (w.heap.size + 1) j _ _ X4
 go_upto_region 7 with (fail)
 have X4 := heap_setCell_same w9 (w.heap.size + 1) 7 _ _ (.slice vA vN vC) X4
 have X6 := q03 (p := ⟨w.heap.size + 1, 7, none⟩) (u := .slice vA vN vC) X6 (by show w.heap.size + 1 ≠ w.heap.size + 2; omega)
 have XE := q03 (p := ⟨w.heap.size + 1, 7, none⟩) (u := .slice vA vN vC) XE (by show w.heap.size + 1 ≠ S6; omega)
 have XI := q03 (p := ⟨w.heap.size + 1, 7, none⟩) (u := .slice vA vN vC) XI (by show w.heap.size + 1 ≠ S8; omega)
 have CB := CB.far (p := ⟨w.heap.size + 1, 7, none⟩) (show w.heap.size + 1 < w.heap.size + 3 by omega) (.slice vA vN vC)
 have CF := CF.far (p := ⟨w.heap.size + 1, 7, none⟩) (show w.heap.size + 1 < w.heap.size + 3 by omega) (.slice vA vN vC)
 have W10 := Kept.mk (W9.out.setCell (p := ⟨w.heap.size + 1, 7, none⟩) (show w.heap.size ≤ w.heap.size + 1 by omega) (.slice vA vN vC))
 have hsz10 : S8 < (w9.setCell ⟨w.heap.size + 1, 7, none⟩ (.slice vA vN vC)).heap.size := by simpa [World.setCell] using hs9
 clear Y4 F4 W9 hs9
 generalize w9.setCell ⟨w.heap.size + 1, 7, none⟩ (.slice vA vN vC) = w10 at *
 have YE := fun j => cell_of_row w10 S6 j _ _ _ XE
 have YI := fun j => cell_of_row w10 S8 j _ _ _ XI
 go_wp2_with fail
 refine (pended ⟨n0, n1, n2, n3, n4, n5, n6, n7⟩ ⟨xkind, xop, xd, xar, xan, xbr, xbn, xname, xt⟩ w10).mono ?_
 rintro en w11 ⟨rfl, b11⟩
 have X4 := q01 X4 b11
 have X6 := q01 X6 b11
 have XE := q01 XE b11
 have XI := q01 XI b11
 have CB := CB.past b11
 have CF := CF.past b11
 have W11 := Kept.mk (W10.out.trans (b11.mono W10.out.size))
 have hs11 : S8 < w11.heap.size := by have := b11.size; omega
 clear YE YI W10 b11 hsz10
 generalize endOf ⟨xkind, xop, xd, xar, xan, xbr, xbn, xname, xt⟩ ⟨n0, n1, n2, n3, n4, n5, n6, n7⟩ = F at *
 have Y4 := fun j => cell_of_row w11 (w.heap.size + 1) j _ _ _ X4
 simp only [Cnf.cs] at Y4
 have F4 := fun j => frozen_of_row w11 (w.heap.size + 1) j _ _ X4
 go_upto_region 8 with (fail)
 have X4 : (w11.setCell ⟨w.heap.size + 1, 9, none⟩ (.int .i64 F)).heap[w.heap.size + 1]? = some (.cells (Cnf.cs ⟨⟨t0, t1, t2, t3, ⟨eA, eN, eC⟩, ⟨fA, fN, fC⟩, tpc⟩, ⟨vA, vN, vC⟩, ⟨hA, hN, hC⟩, F⟩).toArray 41 (0, 0)) := heap_setCell_same w11 (w.heap.size + 1) 9 _ _ (.int .i64 F) X4
 have X6 := q03 (p := ⟨w.heap.size + 1, 9, none⟩) (u := .int .i64 F) X6 (by show w.heap.size + 1 ≠ w.heap.size + 2; omega)
 have XE := q03 (p := ⟨w.heap.size + 1, 9, none⟩) (u := .int .i64 F) XE (by show w.heap.size + 1 ≠ S6; omega)
 have XI := q03 (p := ⟨w.heap.size + 1, 9, none⟩) (u := .int .i64 F) XI (by show w.heap.size + 1 ≠ S8; omega)
 have CB := CB.far (p := ⟨w.heap.size + 1, 9, none⟩) (show w.heap.size + 1 < w.heap.size + 3 by omega) (.int .i64 F)
 have CF := CF.far (p := ⟨w.heap.size + 1, 9, none⟩) (show w.heap.size + 1 < w.heap.size + 3 by omega) (.int .i64 F)
 have W12 := Kept.mk (W11.out.setCell (p := ⟨w.heap.size + 1, 9, none⟩) (show w.heap.size ≤ w.heap.size + 1 by omega) (.int .i64 F))
 have hs12 : S8 < (w11.setCell ⟨w.heap.size + 1, 9, none⟩ (.int .i64 F)).heap.size := by simpa [World.setCell] using hs11
 clear Y4 F4 W11 hs11
 generalize w11.setCell ⟨w.heap.size + 1, 9, none⟩ (.int .i64 F) = w12 at *
 have K4 := Kept.mk X4
 have K6 := Kept.mk X6
 have KCB := Kept.mk CB
 have KCF := Kept.mk CF
 have Y4 := fun j => cell_of_row w12 (w.heap.size + 1) j _ _ _ X4
 have F4 := fun j => frozen_of_row w12 (w.heap.size + 1) j _ _ X4
 have YE := fun j => cell_of_row w12 S6 j _ _ _ XE
 have YI := fun j => cell_of_row w12 S8 j _ _ _ XI
 simp only [Cnf.cs] at Y4
 clear X4 X6 XE XI CB CF
 by_cases hF : F = 0
 ·subst hF
  rw [if_neg (by simp)] at HRE
  have hnf : n7 = false := hx0.out rfl
  subst hnf
  go_wp2_with fail
  refine (pcommit_any (w.heap.size + 1) (w.heap.size + 3) ⟨⟨t0, t1, t2, t3, ⟨eA, eN, eC⟩, ⟨fA, fN, fC⟩, tpc⟩, ⟨vA, vN, vC⟩, ⟨hA, hN, hC⟩, 0⟩ { m with buf := popEnts (⟨n0, n1, n2, n3, n4, n5, n6, false⟩ :: t), fin := 0 } ⟨n0, n1, n2, n3, n4, n5, n6, false⟩ ⟨xkind, xop, xd, xar, xan, xbr, xbn, xname, xt⟩ w12 K4.out (by omega) (by omega) KCB.out (HF3.out trivial) (HF9.out trivial) hfpc hfd hsl).mono ?_
  rintro en w13 ⟨rfl, ⟨⟨a0, a1, a2, a3, ⟨iA, iN, iC⟩, ⟨jA, jN, jC⟩, apc⟩, ⟨kA, kN, kC⟩, ⟨lA, lN, lC⟩, af⟩, hx13, hc13, b13, hfar⟩
  have X6 := (hfar (w.heap.size + 2) (by omega) (by omega)).trans K6.out
  have W13 := Kept.mk (W12.out.trans (b13.mono (by omega)))
  have HRS : Kept (RES = _) := ⟨HRE.out.trans (by rw [HFIN.out])⟩
  have HC13 := Kept.mk hc13
  have K6 := Kept.mk X6
  have Y4 := fun j => cell_of_row w13 (w.heap.size + 1) j _ _ _ hx13
  have Y6 := fun j => cell_of_row w13 (w.heap.size + 2) j _ _ _ X6
  have F6 := fun j => frozen_of_row w13 (w.heap.size + 2) j _ _ X6
  simp only [Cnf.cs] at Y4
  clear F4 YE YI X6 hfar b13 hc13 hx13 W12 KCB KCF
  go_wp2_with fail
  rw [HRS.out]
  have xz := q11 (g := w.heap.size + 2) Cnf.zero ⟨⟨a0, a1, a2, a3, ⟨iA, iN, iC⟩, ⟨jA, jN, jC⟩, apc⟩, ⟨kA, kN, kC⟩, ⟨lA, lN, lC⟩, af⟩ K6.out
  have wz := below10 (g := w.heap.size + 2) ⟨⟨a0, a1, a2, a3, ⟨iA, iN, iC⟩, ⟨jA, jN, jC⟩, apc⟩, ⟨kA, kN, kC⟩, ⟨lA, lN, lC⟩, af⟩ W13.out (by omega)
  refine q0C _ [Cnf.v ⟨⟨a0, a1, a2, a3, ⟨iA, iN, iC⟩, ⟨jA, jN, jC⟩, apc⟩, ⟨kA, kN, kC⟩, ⟨lA, lN, lC⟩, af⟩, .bool true] Try.results28 (.cons (.cell (cs := Cnf.cs ⟨⟨a0, a1, a2, a3, ⟨iA, iN, iC⟩, ⟨jA, jN, jC⟩, apc⟩, ⟨kA, kN, kC⟩, ⟨lA, lN, lC⟩, af⟩) (b := w.heap.size + 2) (off := 0) rfl rfl (q05 xz) Try.underlying41 rfl (by kernel_rfl)) (.cons (.tmp rfl) .nil)) rfl ?_
  refine ⟨⟨⟨a0, a1, a2, a3, ⟨iA, iN, iC⟩, ⟨jA, jN, jC⟩, apc⟩, ⟨kA, kN, kC⟩, ⟨lA, lN, lC⟩, af⟩, rfl, ?_, wz⟩
  refine CfOwn.lower (B := w.heap.size + 3) ?_ (by omega)
  iterate 10 refine CfOwn.far ?_ (by show w.heap.size + 2 < w.heap.size + 3; omega) _
  exact HC13.out
 ·rw [if_pos hF] at HRE
  have hFb : (F != 0) = true := by simpa using hF
  go_upto_region 9 with (fail)
  go_region
  have X4 : ((((w12.setCell ⟨w.heap.size + 1, 7, none⟩ (.slice none 0 0)).setCell ⟨w.heap.size + 1, 8, none⟩ (.slice none 0 0)).setCell ⟨w.heap.size + 1, 6, none⟩ (.int .i64 n0)).drew).heap[w.heap.size + 1]? = some (.cells (Cnf.cs ⟨⟨t0, t1, t2, t3, ⟨eA, eN, eC⟩, ⟨fA, fN, fC⟩, n0⟩, ⟨none, 0, 0⟩, ⟨none, 0, 0⟩, F⟩).toArray 41 (0, 0)) := heap_setCell_same _ (w.heap.size + 1) 6 _ _ (.int .i64 n0) (heap_setCell_same _ (w.heap.size + 1) 8 _ _ (.slice none 0 0) (heap_setCell_same w12 (w.heap.size + 1) 7 _ _ (.slice none 0 0) K4.out))
  have X6 : ((((w12.setCell ⟨w.heap.size + 1, 7, none⟩ (.slice none 0 0)).setCell ⟨w.heap.size + 1, 8, none⟩ (.slice none 0 0)).setCell ⟨w.heap.size + 1, 6, none⟩ (.int .i64 n0)).drew).heap[w.heap.size + 2]? = some (.cells #[.int .i64 0, .int .i64 0, .int .i64 0, .int .i64 0, .slice none 0 0, .slice none 0 0, .int .i64 0, .slice none 0 0, .slice none 0 0, .int .i64 0] 41) := by
   refine q03 (q03 (q03 K6.out ?_) ?_) ?_
   all_goals show w.heap.size + 1 ≠ w.heap.size + 2; omega
  have CE : CfOwn ((((w12.setCell ⟨w.heap.size + 1, 7, none⟩ (.slice none 0 0)).setCell ⟨w.heap.size + 1, 8, none⟩ (.slice none 0 0)).setCell ⟨w.heap.size + 1, 6, none⟩ (.int .i64 n0)).drew) (w.heap.size + 3) ⟨⟨t0, t1, t2, t3, ⟨eA, eN, eC⟩, ⟨fA, fN, fC⟩, n0⟩, ⟨none, 0, 0⟩, ⟨none, 0, 0⟩, F⟩ (endConf m ⟨n0, n1, n2, n3, n4, n5, n6, n7⟩ F) := by
   refine CfOwn.past ?_ (Below.refl _ _).drew
   iterate 3 refine CfOwn.far ?_ (by show w.heap.size + 1 < w.heap.size + 3; omega) _
   exact KCF.out.ended ⟨n0, n1, n2, n3, n4, n5, n6, n7⟩ F
  have W16 : Below w.heap.size w ((((w12.setCell ⟨w.heap.size + 1, 7, none⟩ (.slice none 0 0)).setCell ⟨w.heap.size + 1, 8, none⟩ (.slice none 0 0)).setCell ⟨w.heap.size + 1, 6, none⟩ (.int .i64 n0)).drew) := by
   refine Below.drew ?_
   iterate 3 refine Below.setCell ?_ (show w.heap.size ≤ w.heap.size + 1 by omega) _
   exact W12.out
  clear Y4 F4 YE YI K4 KCB KCF
  generalize ((((w12.setCell ⟨w.heap.size + 1, 7, none⟩ (.slice none 0 0)).setCell ⟨w.heap.size + 1, 8, none⟩ (.slice none 0 0)).setCell ⟨w.heap.size + 1, 6, none⟩ (.int .i64 n0)).drew) = w16 at *
  have K6 := Kept.mk X6
  have HCE := Kept.mk CE
  have Y4 := fun j => cell_of_row w16 (w.heap.size + 1) j _ _ _ X4
  have Y6 := fun j => cell_of_row w16 (w.heap.size + 2) j _ _ _ X6
  have F6 := fun j => frozen_of_row w16 (w.heap.size + 2) j _ _ X6
  have W17 := Kept.mk W16
  simp only [Cnf.cs] at Y4
  clear X4 X6 CE W16 W12
  go_wp2_with fail
  rw [HRE.out]
  have xz := q11 (g := w.heap.size + 2) Cnf.zero ⟨⟨t0, t1, t2, t3, ⟨eA, eN, eC⟩, ⟨fA, fN, fC⟩, n0⟩, ⟨none, 0, 0⟩, ⟨none, 0, 0⟩, F⟩ K6.out
  have wz := below10 (g := w.heap.size + 2) ⟨⟨t0, t1, t2, t3, ⟨eA, eN, eC⟩, ⟨fA, fN, fC⟩, n0⟩, ⟨none, 0, 0⟩, ⟨none, 0, 0⟩, F⟩ W17.out (by omega)
  refine q0C _ [Cnf.v ⟨⟨t0, t1, t2, t3, ⟨eA, eN, eC⟩, ⟨fA, fN, fC⟩, n0⟩, ⟨none, 0, 0⟩, ⟨none, 0, 0⟩, F⟩, .bool true] Try.results28 (.cons (.cell (cs := Cnf.cs ⟨⟨t0, t1, t2, t3, ⟨eA, eN, eC⟩, ⟨fA, fN, fC⟩, n0⟩, ⟨none, 0, 0⟩, ⟨none, 0, 0⟩, F⟩) (b := w.heap.size + 2) (off := 0) rfl rfl (q05 xz) Try.underlying41 rfl (by kernel_rfl)) (.cons (.tmp rfl) .nil)) rfl ?_
  refine ⟨⟨⟨t0, t1, t2, t3, ⟨eA, eN, eC⟩, ⟨fA, fN, fC⟩, n0⟩, ⟨none, 0, 0⟩, ⟨none, 0, 0⟩, F⟩, rfl, ?_, wz⟩
  refine CfOwn.lower (B := w.heap.size + 3) ?_ (by omega)
  iterate 10 refine CfOwn.far ?_ (by show w.heap.size + 2 < w.heap.size + 3; omega) _
  exact HCE.out
theorem pretire_any (p : Prg) (il : List Inst) (c : Cnf) (m : Conf) (w : World) (hp : PIs w p il) (hc : CfIs w c m)
  (hml : m.st.mem.length ≤ 1000) (hsl : m.st.stack.length ≤ 1000) (hbl : m.buf.length ≤ 1000) (hrl : m.rsb.length ≤ 1000) (hsm : Small m.buf) (hfit : canRetOf il m = true → retFit il m) :
  Calls Try.prog 28 #[p.v, c.v] w (CfGotO (retQ il m) w) := by
 unfold retQ
 split
 ·rename_i h
  refine (pretire_yes p il c m w hp hc hml hsl hbl hrl hsm (hfit h) h).mono ?_
  rintro en w' ⟨c', rfl, hc', hb⟩
  exact ⟨c', rfl, hc', hb⟩
 ·rename_i h
  refine (pretire_no p il c m w hp hc hbl (by simpa using h)).mono ?_
  rintro en w' ⟨rfl, hb⟩
  exact ⟨Cnf.zero, rfl, CfOwn.zero, hb⟩
end
end Go.Proofs.Ytchldbkjapnlcaa
