/- A machine as numbers and as bytes, by the code, layer 13. -/
import Derived.Test.YtchldbkjapnlcaaJq
import Derived.ArgAppend
set_option linter.unusedVariables false
set_option linter.unusedSimpArgs false
section
namespace Go.Proofs.Ytchldbkjapnlcaa
open Go.RowKit

noncomputable def regCd (id : Nat) : Code := (Try.f52.body.bind (findRegion id)).getD .skip
theorem below_none13 {w w' : World} (h : w.grownBy w' none) : Below w.heap.size w w' := ⟨h.os, h.tape, h.output, h.size, fun i hi => h.block i hi (by intro e; cases e)⟩
theorem one_append_run {P : Program} {l : List Oper} {a1 : Act} {o : Oper} {w w' : World} {post : Value → World → Prop} (hg : o.guard = none) (s x : Operand) (t : TypeId)
  (ho : o.op = .call { callee := .builtin .append, args := #[s, x], argTypes := #[t, t] }) {sv xv v : Value} (hs : a1.eval s = sv) (hx : a1.eval x = xv)
  (hrun : (Builtin.append_ #[t, t] o.type #[sv, xv]).run P w = .ok v w') (hp : post v w') : OneOp P l a1 o w post :=
 one_makes hg (by simp [execOp, ho, resolve, invoke, builtin, hs, hx, hrun, Result.andThen]) hp
theorem cflag_any (b : Bool) (w : World) : Calls Try.prog 87 #[.bool b] w fun en w' => en = .returned (.int .i64 (tI b)) ∧ Below w.heap.size w w' := by
 cases b
 all_goals
  go_enter Try.func87, Try.ntmps87
  go_wp2_with fail
  go_ret
  exact ⟨rfl, Below.refl _ _⟩
set_option maxRecDepth 100000 in
set_option maxHeartbeats 2000000 in
/-- An entry's eight numbers are put behind all. -/
theorem cnc_region {z0 z1 z2 z4 z6 z7 z8 z9 z10 z11 z12 z13 z14 z15 z16 z17 z18 z19 z20 z21 z22 z23 z24 z25 z26 z27 z28 z29 z30 z31 z32 z33 z34 z35 z36 z37 z38 z39 z40 z41 z42 z43 z44 z45 z46 z47 z48 z49 z50 z51 z52 z53 z54 z55 z56 z57 z58 z59 : Value} (w0 : World) (N0 S5 : Nat) (v0 : Value) (l : List Int) (e : Ent) (HO : Kept (OwnI w0 N0 v0 l)) (XE : Kept (w0.heap[S5]? = some (.cells e.cs.toArray 55 (0, 0)))) (hS5 : S5 < w0.heap.size) (hne : some S5 ≠ v0.ownBlock) (hl : l.length ≤ 900000) (hN : N0 ≤ w0.heap.size) (Q : Exit → Act → World → Prop)
  (hQ : ∀ (u3 u21 u22 u23 u24 u25 u26 u27 u28 u29 u30 u31 u32 u33 u34 u35 u36 u37 u38 u39 u40 u41 u42 : Value) (w' : World), OwnI w' N0 u3 (l ++ entInts e) → Below N0 w0 w' → Q .normal ⟨#[z0, z1, z2, u3, z4, .pointer (some ⟨S5, 0, none⟩), z6, z7, z8, z9, z10, z11, z12, z13, z14, z15, z16, z17, z18, z19, z20, u21, u22, u23, u24, u25, u26, u27, u28, u29, u30, u31, u32, u33, u34, u35, u36, u37, u38, u39, u40, u41, u42, z43, z44, z45, z46, z47, z48, z49, z50, z51, z52, z53, z54, z55, z56, z57, z58, z59], []⟩ w') :
  Code.wp Try.prog (regCd 5) Q ⟨#[z0, z1, z2, v0, z4, .pointer (some ⟨S5, 0, none⟩), z6, z7, z8, z9, z10, z11, z12, z13, z14, z15, z16, z17, z18, z19, z20, z21, z22, z23, z24, z25, z26, z27, z28, z29, z30, z31, z32, z33, z34, z35, z36, z37, z38, z39, z40, z41, z42, z43, z44, z45, z46, z47, z48, z49, z50, z51, z52, z53, z54, z55, z56, z57, z58, z59], []⟩ w0 := by
 conv => arg 2; whnf
 refine region_telll (z := 22) (dz := 3) (v0 := v0) rfl (fun done vals w => IZ w0 N0 v0 l 21 done vals w) (N0) (G := fun _ => True) (ts := [
   .is (v0),
   .is (Value.pointer (some ⟨S5, 0, none⟩)),
   .is (.int .i64 e.pc),
   .is (Value.pointer (some ⟨S5, 1, none⟩)),
   .is (.int .i64 e.val),
   .is (Value.pointer (some ⟨S5, 2, none⟩)),
   .is (.int .i64 e.addr),
   .is (Value.pointer (some ⟨S5, 3, none⟩)),
   .is (.int .i64 e.frm),
   .is (Value.pointer (some ⟨S5, 4, none⟩)),
   .is (.int .i64 e.next),
   .is (Value.pointer (some ⟨S5, 5, none⟩)),
   .is (.bool e.done),
   .draws (.int .i64 (tI e.done)),
   .is (Value.pointer (some ⟨S5, 6, none⟩)),
   .is (.bool e.known),
   .draws (.int .i64 (tI e.known)),
   .is (Value.pointer (some ⟨S5, 7, none⟩)),
   .is (.bool e.fault),
   .draws (.int .i64 (tI e.fault)),
   .makes (fun v w => ∃ g, v = .slice (some ⟨g, 0, none⟩) 8 8 ∧ w.heap[g]? = some (.cells (intCs (entInts e)).toArray 3 (0, 0))),
   .turns (fun v w => OwnI w N0 v (l ++ entInts e)) (fun _ _ => True),
   .gets (fun v w => OwnI w N0 v (l ++ entInts e))])
  (fin := [22]) (cs := []) ?z0 ?zg (by kernel_rfl) rfl (by kernel_rfl) (by kernel_rfl)
  ⟨trivial, trivial, trivial, trivial, trivial, trivial, trivial, trivial, trivial, trivial, trivial, trivial, trivial, trivial, trivial, trivial, trivial, trivial, trivial, trivial, (fun _ _ _ ⟨g, h1, h2⟩ hb => ⟨g, h1, heap_keep h2 hb⟩), (fun _ _ _ h hb => OwnI.past h hb), (fun _ _ _ h hb => OwnI.past h hb), trivial⟩ (fun _ _ _ _ => trivial) ?cs (by omega) trivial
  ⟨?_, ?_, ?_, ?_, ?_, ?_, ?_, ?_, ?_, ?_, ?_, ?_, ?_, ?_, ?_, ?_, ?_, ?_, ?_, ?_, ?_, ?_, ?_, trivial⟩ ?_
 case z0 =>
  show _
  exact IZ.start HO.out
 case zg =>
  intro i done vals w1 w2 v hti hni hZ hb
  have hz := hZ
  ·skip
   have hz : IZ w0 N0 v0 l 21 done vals w1 := hz
   have ha : ¬ 21 = i := by rintro rfl; cases hti
   exact hz.other ha hb
 case cs =>
  intro p hp v w1 w2 hG hR hE
  simp only [List.mem_cons, List.not_mem_nil, or_false] at hp
 ·intro done vals w1 hB _ hZ hni hcl hdn hd
  clear hd
  refine one_value (v := v0) rfl ?_ ⟨post_is rfl, noturn rfl⟩
  kernel_rfl
 ·intro done vals w1 hB _ hZ hni hcl hdn hd
  clear hd
  refine one_value (v := Value.pointer (some ⟨S5, 0, none⟩)) rfl ?_ ⟨post_is rfl, noturn rfl⟩
  kernel_rfl
 ·intro done vals w1 hB _ hZ hni hcl hdn hd
  clear hd
  have hz : IZ w0 N0 v0 l 21 done vals w1 := hZ
  refine one_value (v := .int .i64 e.pc) rfl ?_ ⟨post_is rfl, noturn rfl⟩
  exact exec_cell rfl (by kernel_rfl) (CellsAt.of_block (t := 55) (fr := (0, 0)) (cs := e.cs) ((hz.g.block S5 hS5 hne).trans XE.out) 0 _ rfl) Try.underlying3 rfl
 ·intro done vals w1 hB _ hZ hni hcl hdn hd
  clear hd
  refine one_value (v := Value.pointer (some ⟨S5, 1, none⟩)) rfl ?_ ⟨post_is rfl, noturn rfl⟩
  kernel_rfl
 ·intro done vals w1 hB _ hZ hni hcl hdn hd
  clear hd
  have hz : IZ w0 N0 v0 l 21 done vals w1 := hZ
  refine one_value (v := .int .i64 e.val) rfl ?_ ⟨post_is rfl, noturn rfl⟩
  exact exec_cell rfl (by kernel_rfl) (CellsAt.of_block (t := 55) (fr := (0, 0)) (cs := e.cs) ((hz.g.block S5 hS5 hne).trans XE.out) 1 _ rfl) Try.underlying3 rfl
 ·intro done vals w1 hB _ hZ hni hcl hdn hd
  clear hd
  refine one_value (v := Value.pointer (some ⟨S5, 2, none⟩)) rfl ?_ ⟨post_is rfl, noturn rfl⟩
  kernel_rfl
 ·intro done vals w1 hB _ hZ hni hcl hdn hd
  clear hd
  have hz : IZ w0 N0 v0 l 21 done vals w1 := hZ
  refine one_value (v := .int .i64 e.addr) rfl ?_ ⟨post_is rfl, noturn rfl⟩
  exact exec_cell rfl (by kernel_rfl) (CellsAt.of_block (t := 55) (fr := (0, 0)) (cs := e.cs) ((hz.g.block S5 hS5 hne).trans XE.out) 2 _ rfl) Try.underlying3 rfl
 ·intro done vals w1 hB _ hZ hni hcl hdn hd
  clear hd
  refine one_value (v := Value.pointer (some ⟨S5, 3, none⟩)) rfl ?_ ⟨post_is rfl, noturn rfl⟩
  kernel_rfl
 ·intro done vals w1 hB _ hZ hni hcl hdn hd
  clear hd
  have hz : IZ w0 N0 v0 l 21 done vals w1 := hZ
  refine one_value (v := .int .i64 e.frm) rfl ?_ ⟨post_is rfl, noturn rfl⟩
  exact exec_cell rfl (by kernel_rfl) (CellsAt.of_block (t := 55) (fr := (0, 0)) (cs := e.cs) ((hz.g.block S5 hS5 hne).trans XE.out) 3 _ rfl) Try.underlying3 rfl
 ·intro done vals w1 hB _ hZ hni hcl hdn hd
  clear hd
  refine one_value (v := Value.pointer (some ⟨S5, 4, none⟩)) rfl ?_ ⟨post_is rfl, noturn rfl⟩
  kernel_rfl
 ·intro done vals w1 hB _ hZ hni hcl hdn hd
  clear hd
  have hz : IZ w0 N0 v0 l 21 done vals w1 := hZ
  refine one_value (v := .int .i64 e.next) rfl ?_ ⟨post_is rfl, noturn rfl⟩
  exact exec_cell rfl (by kernel_rfl) (CellsAt.of_block (t := 55) (fr := (0, 0)) (cs := e.cs) ((hz.g.block S5 hS5 hne).trans XE.out) 4 _ rfl) Try.underlying3 rfl
 ·intro done vals w1 hB _ hZ hni hcl hdn hd
  clear hd
  refine one_value (v := Value.pointer (some ⟨S5, 5, none⟩)) rfl ?_ ⟨post_is rfl, noturn rfl⟩
  kernel_rfl
 ·intro done vals w1 hB _ hZ hni hcl hdn hd
  clear hd
  have hz : IZ w0 N0 v0 l 21 done vals w1 := hZ
  refine one_value (v := .bool e.done) rfl ?_ ⟨post_is rfl, noturn rfl⟩
  exact exec_cell rfl (by kernel_rfl) (CellsAt.of_block (t := 55) (fr := (0, 0)) (cs := e.cs) ((hz.g.block S5 hS5 hne).trans XE.out) 5 _ rfl) Try.underlying4 rfl
 ·intro done vals w1 hB _ hZ hni hcl hdn hd
  clear hd
  have hz : IZ w0 N0 v0 l 21 done vals w1 := hZ
  refine one_calls (f := 87) (args := #[.bool e.done]) (w1 := w1) rfl (by kernel_rfl) ?_
  refine (cflag_any e.done w1).mono ?_
  rintro e1 w2 ⟨rfl, h2⟩
  exact ⟨_, rfl, post_draws rfl h2, noturn rfl⟩
 ·intro done vals w1 hB _ hZ hni hcl hdn hd
  clear hd
  refine one_value (v := Value.pointer (some ⟨S5, 6, none⟩)) rfl ?_ ⟨post_is rfl, noturn rfl⟩
  kernel_rfl
 ·intro done vals w1 hB _ hZ hni hcl hdn hd
  clear hd
  have hz : IZ w0 N0 v0 l 21 done vals w1 := hZ
  refine one_value (v := .bool e.known) rfl ?_ ⟨post_is rfl, noturn rfl⟩
  exact exec_cell rfl (by kernel_rfl) (CellsAt.of_block (t := 55) (fr := (0, 0)) (cs := e.cs) ((hz.g.block S5 hS5 hne).trans XE.out) 6 _ rfl) Try.underlying4 rfl
 ·intro done vals w1 hB _ hZ hni hcl hdn hd
  clear hd
  have hz : IZ w0 N0 v0 l 21 done vals w1 := hZ
  refine one_calls (f := 87) (args := #[.bool e.known]) (w1 := w1) rfl (by kernel_rfl) ?_
  refine (cflag_any e.known w1).mono ?_
  rintro e1 w2 ⟨rfl, h2⟩
  exact ⟨_, rfl, post_draws rfl h2, noturn rfl⟩
 ·intro done vals w1 hB _ hZ hni hcl hdn hd
  clear hd
  refine one_value (v := Value.pointer (some ⟨S5, 7, none⟩)) rfl ?_ ⟨post_is rfl, noturn rfl⟩
  kernel_rfl
 ·intro done vals w1 hB _ hZ hni hcl hdn hd
  clear hd
  have hz : IZ w0 N0 v0 l 21 done vals w1 := hZ
  refine one_value (v := .bool e.fault) rfl ?_ ⟨post_is rfl, noturn rfl⟩
  exact exec_cell rfl (by kernel_rfl) (CellsAt.of_block (t := 55) (fr := (0, 0)) (cs := e.cs) ((hz.g.block S5 hS5 hne).trans XE.out) 7 _ rfl) Try.underlying4 rfl
 ·intro done vals w1 hB _ hZ hni hcl hdn hd
  clear hd
  have hz : IZ w0 N0 v0 l 21 done vals w1 := hZ
  refine one_calls (f := 87) (args := #[.bool e.fault]) (w1 := w1) rfl (by kernel_rfl) ?_
  refine (cflag_any e.fault w1).mono ?_
  rintro e1 w2 ⟨rfl, h2⟩
  exact ⟨_, rfl, post_draws rfl h2, noturn rfl⟩
 ·intro done vals w1 hB _ hZ hni hcl hdn hd
  clear hd
  exact one_makes (v := .slice (some ⟨w1.heap.size, 0, none⟩) 8 8) (w' := w1.alloc (.cells #[.int .i64 e.pc, .int .i64 e.val, .int .i64 e.addr, .int .i64 e.frm, .int .i64 e.next, .int .i64 (tI e.done), .int .i64 (tI e.known), .int .i64 (tI e.fault)] 3)) rfl (by kernel_rfl) ⟨post_makes rfl ⟨w1.heap.size, rfl, heap_alloc_new w1 _⟩ (below_alloc_self _ _), noturn rfl⟩
 ·intro done vals w1 hB _ hZ hni hcl hdn hd
  obtain ⟨g, eb, hh⟩ : ∃ g, vals 20 = .slice (some ⟨g, 0, none⟩) 8 8 ∧ w1.heap[g]? = some (.cells (intCs (entInts e)).toArray 3 (0, 0)) := hd 20 (by kernel_rfl)
  clear hd
  have hz : IZ w0 N0 v0 l 21 done vals w1 := hZ
  have ho := hz.r hni
  refine one_append rfl (.tmp 21) (.tmp 41) _ rfl N0 _ _ 1 8 Try.underlying22 info_int rfl (by omega) (v := v0) (by kernel_rfl) ho (A := some ⟨g, 0, none⟩) (m := 8) (c := 8) ?_ (reads_block (cs := intCs (entInts e)) hh rfl) (intCs_one_cell _) (by simp only [maxLen]; omega) (by omega) (by have := hz.s; omega) ?_
  ·rw [vals_at eb]
   kernel_rfl
  intro v2 w2 h1 h2 h3
  have h1 : OwnI w2 N0 v2 (l ++ entInts e) := by unfold OwnI; rw [intCs_append, List.length_append]; exact h1
  exact ⟨post_turns rfl h1 (hB.grown h2 (by have := hz.s; omega) (fun k hk => by have := (World.ownsRow.lt ho k hk).1; omega)) trivial h2.size trivial, fun _ => hz.app h2⟩
 ·intro done vals w1 hB _ hZ hni hcl hdn hd
  have da : OwnI w1 N0 (vals 21) (l ++ entInts e) := hd 21 (by kernel_rfl)
  clear hd
  refine one_value (v := vals 21) rfl ?_ ⟨post_gets rfl da, noturn rfl⟩
  kernel_rfl
 intro done vals w9 b9 _ hall hZ hr
 have hz : IZ w0 N0 v0 l 21 done vals w9 := hZ
 have has := hr 22 (by simp) (by simp)
 simp only [fillT, Tell.is, Tell.draws, Tell.makes, Tell.gets, Tell.turns, Act.put, List.setIfInBounds_toArray, List.set_cons_zero, List.set_cons_succ]
 exact hQ _ _ _ _ _ _ _ _ _ _ _ _ _ _ _ _ _ _ _ _ _ _ _ w9 has b9

theorem code_putx (A : Option Addr) (n c : Nat) (l : List Int) (w : World) (hl : l.length = n) (hr : RdI w A l) (hi : ∀ x ∈ l, I64 x) (hn : n ≤ 1000000) :
  Calls Try.prog 88 #[.slice A n c] w (GivesB w (putL l)) := code_put A n c l w hl hr hi hn
set_option maxRecDepth 100000 in
set_option maxHeartbeats 1600000 in
theorem numbers_any (c : Stt) (s : State) (w : World) (h : StIs w c s) (hm : s.mem.length ≤ 100000) (hs : s.stack.length ≤ 100000) : Calls Try.prog 86 #[c.v] w (GivesI w (stInts s)) := by
 obtain ⟨r0, r1, r2, r3, ⟨mA, mN, mC⟩, ⟨sA, sN, sC⟩, pc⟩ := c
 obtain ⟨q0, q1, q2, q3, mem, stack, qc⟩ := s
 obtain ⟨h0, h1, h2, h3, ⟨hmn, hmc, hmr⟩, ⟨hsn, hsc, hsr⟩, hpc⟩ := h
 simp only at h0 h1 h2 h3 hpc hmn hsn hm hs hmr hsr
 subst h0 h1 h2 h3 hpc hmn hsn
 have HMR := Kept.mk hmr
 have HSR := Kept.mk hsr
 clear hmc hsc hmr hsr
 go_enter Try.func86, Try.ntmps86
 go_upto_region 1 with (fail)
 have XB : Kept (∀ w1, Below (w.heap.size + 1) (w.alloc (.cells #[.int .i64 r0, .int .i64 r1, .int .i64 r2, .int .i64 r3, .slice mA mem.length mC, .slice sA stack.length sC, .int .i64 pc] 36)) w1 → w1.heap[w.heap.size]? = some (.cells #[.int .i64 r0, .int .i64 r1, .int .i64 r2, .int .i64 r3, .slice mA mem.length mC, .slice sA stack.length sC, .int .i64 pc] 36 (0, 0))) := ⟨fun w1 h => (h.block _ (by omega)).trans (heap_alloc_new w (.cells #[.int .i64 r0, .int .i64 r1, .int .i64 r2, .int .i64 r3, .slice mA mem.length mC, .slice sA stack.length sC, .int .i64 pc] 36))⟩
 have bS := Kept.mk (below_alloc_self w (.cells #[.int .i64 r0, .int .i64 r1, .int .i64 r2, .int .i64 r3, .slice mA mem.length mC, .slice sA stack.length sC, .int .i64 pc] 36))
 have hsz : w.heap.size + 1 ≤ (w.alloc (.cells #[.int .i64 r0, .int .i64 r1, .int .i64 r2, .int .i64 r3, .slice mA mem.length mC, .slice sA stack.length sC, .int .i64 pc] 36)).heap.size := by simp
 generalize w.alloc (.cells #[.int .i64 r0, .int .i64 r1, .int .i64 r2, .int .i64 r3, .slice mA mem.length mC, .slice sA stack.length sC, .int .i64 pc] 36) = w0 at *
 generalize hS : w.heap.size = S at *
 have HS := Kept.mk hS
 clear hS
 refine region_tell (S + 1) (G := fun _ => True) (ts := [
   .is (Value.pointer (some ⟨S, 0, none⟩)),
   .is (.slice (some ⟨S, 0, none⟩) 4 4),
   .is (Value.pointer (some ⟨S, 4, none⟩)),
   .is (.slice mA mem.length mC),
   .is (.int .i64 (mem.length : Int)),
   .makes (fun v w => ∃ g, v = .slice (some ⟨g, 0, none⟩) 1 1 ∧ w.heap[g]? = some (.cells #[.int .i64 (mem.length : Int)] 3 (0, 0))),
   .makes (fun v w' => OwnI w' (S + 1) v [r0, r1, r2, r3, (mem.length : Int)]),
   .gets (fun v w' => OwnI w' (S + 1) v [r0, r1, r2, r3, (mem.length : Int)])]) (fin := [7]) (cs := []) (by kernel_rfl) rfl (by kernel_rfl) (by kernel_rfl) ⟨trivial, trivial, trivial, trivial, trivial, (fun _ _ _ ⟨g, h1, h2⟩ hb => ⟨g, h1, heap_keep h2 hb⟩), OwnI.grows, OwnI.grows, trivial⟩ (fun _ _ _ _ => trivial) (by simp) hsz trivial
  ⟨?_, ?_, ?_, ?_, ?_, ?_, ?_, ?_, trivial⟩ ?_
 ·intro vals w1 hB _ hd
  exact one_value (v := Value.pointer (some ⟨S, 0, none⟩)) rfl (by kernel_rfl) (post_is rfl)
 ·intro vals w1 hB _ hd
  exact one_value (v := .slice (some ⟨S, 0, none⟩) 4 4) rfl (by kernel_rfl) (post_is rfl)
 ·intro vals w1 hB _ hd
  exact one_value (v := Value.pointer (some ⟨S, 4, none⟩)) rfl (by kernel_rfl) (post_is rfl)
 ·intro vals w1 hB _ hd
  exact one_value (v := .slice mA mem.length mC) rfl (exec_cell rfl (by kernel_rfl) (CellsAt.of_block (XB.out w1 hB) 4 _ rfl) Try.underlying22 rfl) (post_is rfl)
 ·intro vals w1 hB _ hd
  exact one_value (v := .int .i64 (mem.length : Int)) rfl (by kernel_rfl) (post_is rfl)
 ·intro vals w1 hB _ hd
  exact one_makes (v := .slice (some ⟨w1.heap.size, 0, none⟩) 1 1) (w' := w1.alloc (.cells #[.int .i64 (mem.length : Int)] 3)) rfl (by kernel_rfl) (post_makes rfl ⟨w1.heap.size, rfl, heap_alloc_new w1 _⟩ (below_alloc_self _ _))
 ·intro vals w1 hB _ hd
  obtain ⟨g, e5, hh⟩ : ∃ g, vals 5 = .slice (some ⟨g, 0, none⟩) 1 1 ∧ w1.heap[g]? = some (.cells #[.int .i64 (mem.length : Int)] 3 (0, 0)) := hd 5 (by kernel_rfl)
  clear hd
  have hx := XB.out w1 hB
  have hs1 : S + 1 ≤ w1.heap.size := by have := hB.size; omega
  obtain ⟨i0, hi0, hz0, hz1, hz2⟩ := info_parts info_int
  obtain ⟨v', w', hrun, r1', r2'⟩ := run_append_arg_grows (P := Try.prog) w1 22 22 3 i0 _ 1 8 Try.underlying22 hi0 hz0 hz1 hz2 rfl (by omega) ⟨S, 0, none⟩ 4 4 (intCs [r0, r1, r2, r3]) rfl
   (fun j u hj => by
    have hj4 : j < 4 := by have := (List.getElem?_eq_some_iff.1 hj).1; simpa [intCs] using this
    have : j = 0 ∨ j = 1 ∨ j = 2 ∨ j = 3 := by omega
    rcases this with rfl | rfl | rfl | rfl
    ·exact CellsAt.of_block hx 0 u hj
    ·exact CellsAt.of_block hx 1 u hj
    ·exact CellsAt.of_block hx 2 u hj
    ·exact CellsAt.of_block hx 3 u hj) ⟨g, 0, none⟩ 1 1 (intCs [(mem.length : Int)]) rfl
   (fun j u hj => by
    have hj1 : j < 1 := by have := (List.getElem?_eq_some_iff.1 hj).1; simpa [intCs] using this
    obtain rfl : j = 0 := by omega
    exact CellsAt.of_block hh 0 u hj) (by decide) (by decide) (by decide)
  refine one_append_run rfl (.tmp 5) (.tmp 9) 22 rfl (sv := .slice (some ⟨S, 0, none⟩) 4 4) (xv := .slice (some ⟨g, 0, none⟩) 1 1) (by kernel_rfl) ?_ hrun (post_makes rfl (OwnI.lower r1' hs1) (below_none13 r2'))
  rw [vals_at e5]
  kernel_rfl
 ·intro vals w1 hB _ hd
  have d6 : OwnI w1 (S + 1) (vals 6) [r0, r1, r2, r3, (mem.length : Int)] := hd 6 (by kernel_rfl)
  exact one_value (v := vals 6) rfl (by kernel_rfl) (post_gets rfl d6)
 intro vals w1 hB _ hr
 have O1 : OwnI w1 (S + 1) (vals 7) [r0, r1, r2, r3, (mem.length : Int)] := hr 7 (by simp) (by simp)
 clear hr
 simp only [fillT, Tell.is, Tell.makes, Tell.gets, Act.put, List.setIfInBounds_toArray, List.set_cons_zero, List.set_cons_succ]
 have XB := Kept.mk (XB.out w1 hB)
 have W1 := Kept.mk (bS.out.trans (hB.mono (by omega)))
 have S1 : S + 1 ≤ w1.heap.size := by have := hB.size; omega
 have O1 := Kept.mk O1
 clear bS hsz hB
 obtain ⟨A1, c1, ev, -, -⟩ := O1.out.shape
 have YB := fun j => cell_of_row w1 S j _ _ _ XB.out
 rw [show vals (0 + 1 + 1 + 1 + 1 + 1 + 1 + 1) = vals 7 from rfl]
 generalize vals 7 = v1 at *
 clear ev
 go_wp2_with (at_builtin; go_must (refine append_nums _ rfl (.tmp 11) (.tmp 13) rfl (S + 1) rfl O1.out (m := mem) rfl (HMR.out.past (by rw [HS.out]; exact W1.out)) (by simp; omega) S1 ?_))
 intro v2 w2 O2 g2 b2
 have XB := Kept.mk ((b2.block S (by omega)).trans XB.out)
 have W2 := Kept.mk (W1.out.trans (b2.mono (by omega)))
 have S2 : S + 1 ≤ w2.heap.size := by have := b2.size; omega
 have O2 := Kept.mk O2
 clear O1 YB W1 g2 b2 S1
 have Y1 := fun j => cell_of_row w2 S j _ _ _ XB.out
 go_wp2_with (at_builtin; go_must (refine append_int _ rfl (.tmp 15) (.tmp 19) rfl (S + 1) rfl (O2.out.past (below_alloc_self _ _)) _ (stack.length : Int) rfl (heap_at_new (by simp)) (by simp; omega) (by simp; omega) ?_))
 intro v3 w3 O3 g3 b3
 have b3 := ((Below.refl (S + 1) w2).alloc S2 (.cells #[.int .i64 (stack.length : Int)] 3)).trans b3
 have XB := Kept.mk ((b3.block S (by omega)).trans XB.out)
 have W3 := Kept.mk (W2.out.trans (b3.mono (by omega)))
 have S3 : S + 1 ≤ w3.heap.size := by have := b3.size; omega
 have O3 := Kept.mk O3
 clear O2 Y1 W2 g3 b3 S2
 have Y1 := fun j => cell_of_row w3 S j _ _ _ XB.out
 go_wp2_with (at_builtin; go_must (refine append_nums _ rfl (.tmp 21) (.tmp 23) rfl (S + 1) rfl O3.out (m := stack) rfl (HSR.out.past (by rw [HS.out]; exact W3.out)) (by simp; omega) S3 ?_))
 intro v4 w4 O4 g4 b4
 have XB := Kept.mk ((b4.block S (by omega)).trans XB.out)
 have W4 := Kept.mk (W3.out.trans (b4.mono (by omega)))
 have S4 : S + 1 ≤ w4.heap.size := by have := b4.size; omega
 have O4 := Kept.mk O4
 clear O3 Y1 W3 g4 b4 S3
 have Y1 := fun j => cell_of_row w4 S j _ _ _ XB.out
 go_wp2_with (at_builtin; go_must (refine append_int _ rfl (.tmp 25) (.tmp 28) rfl (S + 1) rfl (O4.out.past (below_alloc_self _ _)) _ pc rfl (heap_at_new (by simp)) (by simp; omega) (by simp; omega) ?_))
 intro v5 w5 O5 g5 b5
 have b5 := ((Below.refl (S + 1) w4).alloc S4 (.cells #[.int .i64 pc] 3)).trans b5
 have W5 := Kept.mk (W4.out.trans (b5.mono (by omega)))
 have O5 := Kept.mk O5
 clear O4 Y1 W4 g5 b5 S4 XB
 go_wp2_with fail
 go_ret
 exact ⟨v5, rfl, by rw [HS.out]; simpa only [stInts, List.append_assoc, List.cons_append, List.nil_append] using OwnI.lower O5.out (show S ≤ S + 1 by omega), by rw [HS.out]; exact W5.out⟩
set_option maxRecDepth 100000 in
set_option maxHeartbeats 1600000 in
theorem conf_code (c : Cnf) (m : Conf) (w : World) (h : CfIs w c m) (h64 : ∀ x ∈ cfInts m, I64 x) (hm : m.st.mem.length ≤ 100000) (hs : m.st.stack.length ≤ 100000) (hb : m.buf.length ≤ 80000) (hq : m.rsb.length ≤ 100000) : Calls Try.prog 52 #[c.v] w (GivesB w (putL (cfInts m))) := by
 obtain ⟨⟨r0, r1, r2, r3, ⟨mA, mN, mC⟩, ⟨sA, sN, sC⟩, pc⟩, ⟨bA, bN, bC⟩, ⟨qA, qN, qC⟩, fin⟩ := c
 have H7 := Kept.mk (fun w1 h1 => numbers_any ⟨r0, r1, r2, r3, ⟨mA, mN, mC⟩, ⟨sA, sN, sC⟩, pc⟩ m.st w1 h1 hm hs)
 have hsl := stInts_length m.st
 obtain ⟨st, buf, rsb, qf⟩ := m
 obtain ⟨hst, ⟨hbn, hbc, hbr⟩, ⟨hqn, hqc, hqr⟩, hf⟩ := h
 simp only at hf hbn hqn hb hq hbr hqr hm hs hsl
 subst hf hbn hqn
 have HST := Kept.mk hst
 have HBR := Kept.mk hbr
 have HQR := Kept.mk hqr
 clear hbc hqc hbr hqr hst
 generalize hsi : stInts st = si at H7 hsl
 have HSI := Kept.mk hsi
 clear hsi
 have hsl : si.length ≤ 200007 := by omega
 have HCF : Kept (cfInts ⟨st, buf, rsb, fin⟩ = ((((si ++ [(buf.length : Int)]) ++ entsInts buf) ++ [(rsb.length : Int)]) ++ rsb) ++ [fin]) := ⟨by rw [← HSI.out]; rfl⟩
 generalize cfInts ⟨st, buf, rsb, fin⟩ = RES at HCF h64 ⊢
 have H64 := Kept.mk h64
 have hRL : RES.length ≤ 1000000 := by rw [HCF.out]; simp [entsInts_length]; omega
 clear h64
 go_enter Try.func52, Try.ntmps52
 go_upto_region 1 with (fail)
 have XB : Kept (∀ w1, Below (w.heap.size + 1) (w.alloc (.cells #[.int .i64 r0, .int .i64 r1, .int .i64 r2, .int .i64 r3, .slice mA mN mC, .slice sA sN sC, .int .i64 pc, .slice bA buf.length bC, .slice qA rsb.length qC, .int .i64 fin] 41)) w1 → w1.heap[w.heap.size]? = some (.cells #[.int .i64 r0, .int .i64 r1, .int .i64 r2, .int .i64 r3, .slice mA mN mC, .slice sA sN sC, .int .i64 pc, .slice bA buf.length bC, .slice qA rsb.length qC, .int .i64 fin] 41 (0, 0))) := ⟨fun w1 h => (h.block _ (by omega)).trans (heap_alloc_new w (.cells #[.int .i64 r0, .int .i64 r1, .int .i64 r2, .int .i64 r3, .slice mA mN mC, .slice sA sN sC, .int .i64 pc, .slice bA buf.length bC, .slice qA rsb.length qC, .int .i64 fin] 41))⟩
 have bS := Kept.mk (below_alloc_self w (.cells #[.int .i64 r0, .int .i64 r1, .int .i64 r2, .int .i64 r3, .slice mA mN mC, .slice sA sN sC, .int .i64 pc, .slice bA buf.length bC, .slice qA rsb.length qC, .int .i64 fin] 41))
 have hsz : w.heap.size + 1 ≤ (w.alloc (.cells #[.int .i64 r0, .int .i64 r1, .int .i64 r2, .int .i64 r3, .slice mA mN mC, .slice sA sN sC, .int .i64 pc, .slice bA buf.length bC, .slice qA rsb.length qC, .int .i64 fin] 41)).heap.size := by simp
 generalize w.alloc (.cells #[.int .i64 r0, .int .i64 r1, .int .i64 r2, .int .i64 r3, .slice mA mN mC, .slice sA sN sC, .int .i64 pc, .slice bA buf.length bC, .slice qA rsb.length qC, .int .i64 fin] 41) = w0 at *
 generalize hS : w.heap.size = S at *
 have HS := Kept.mk hS
 clear hS
 refine region_tell (S + 1) (G := fun _ => True) (ts := [
   .is (Value.pointer (some ⟨S, 0, none⟩)),
   .is (Stt.v ⟨r0, r1, r2, r3, ⟨mA, mN, mC⟩, ⟨sA, sN, sC⟩, pc⟩),
   .makes (fun v w' => OwnI w' (S + 1) v si),
   .is (Value.pointer (some ⟨S, 7, none⟩)),
   .is (.slice bA buf.length bC),
   .is (.int .i64 (buf.length : Int)),
   .makes (fun v w => ∃ g, v = .slice (some ⟨g, 0, none⟩) 1 1 ∧ w.heap[g]? = some (.cells #[.int .i64 (buf.length : Int)] 3 (0, 0))),
   .turns (fun v w' => OwnI w' (S + 1) v (si ++ [(buf.length : Int)])) (fun _ _ => True),
   .gets (fun v w' => OwnI w' (S + 1) v (si ++ [(buf.length : Int)]))]) (fin := [8]) (cs := []) (by kernel_rfl) rfl (by kernel_rfl) (by kernel_rfl) ⟨trivial, trivial, OwnI.grows, trivial, trivial, trivial, (fun _ _ _ ⟨g, h1, h2⟩ hb => ⟨g, h1, heap_keep h2 hb⟩), OwnI.grows, OwnI.grows, trivial⟩ (fun _ _ _ _ => trivial) (by simp) hsz trivial
  ⟨?_, ?_, ?_, ?_, ?_, ?_, ?_, ?_, ?_, trivial⟩ ?_
 ·intro vals w1 hB _ hd
  exact one_value (v := Value.pointer (some ⟨S, 0, none⟩)) rfl (by kernel_rfl) (post_is rfl)
 ·intro vals w1 hB _ hd
  exact one_value (v := Stt.v ⟨r0, r1, r2, r3, ⟨mA, mN, mC⟩, ⟨sA, sN, sC⟩, pc⟩) rfl (exec_load_row rfl (b := S) (off := 0) (by kernel_rfl) (Stt.cs ⟨r0, r1, r2, r3, ⟨mA, mN, mC⟩, ⟨sA, sN, sC⟩, pc⟩) (fun j u hj => CellsAt.of_block (XB.out w1 hB) j u (by
   have hj7 : j < 7 := by have := (List.getElem?_eq_some_iff.1 hj).1; simpa [Stt.cs] using this
   have : j = 0 ∨ j = 1 ∨ j = 2 ∨ j = 3 ∨ j = 4 ∨ j = 5 ∨ j = 6 := by omega
   rcases this with rfl | rfl | rfl | rfl | rfl | rfl | rfl
   all_goals exact hj)) Try.underlying36 rfl (by kernel_rfl)) (post_is rfl)
 ·intro vals w1 hB _ hd
  clear hd
  refine one_calls (f := 86) (args := #[Stt.v ⟨r0, r1, r2, r3, ⟨mA, mN, mC⟩, ⟨sA, sN, sC⟩, pc⟩]) (w1 := w1) rfl (by kernel_rfl) ?_
  refine (H7.out w1 (HST.out.past (by rw [HS.out]; exact bS.out.trans (hB.mono (by omega))))).mono ?_
  rintro e1 w2 ⟨v, rfl, h1, h2⟩
  exact ⟨v, rfl, post_makes rfl (OwnI.lower h1 (by have := hB.size; omega)) h2⟩
 ·intro vals w1 hB _ hd
  exact one_value (v := Value.pointer (some ⟨S, 7, none⟩)) rfl (by kernel_rfl) (post_is rfl)
 ·intro vals w1 hB _ hd
  exact one_value (v := .slice bA buf.length bC) rfl (exec_cell rfl (by kernel_rfl) (CellsAt.of_block (XB.out w1 hB) 7 _ rfl) Try.underlying39 rfl) (post_is rfl)
 ·intro vals w1 hB _ hd
  exact one_value (v := .int .i64 (buf.length : Int)) rfl (by kernel_rfl) (post_is rfl)
 ·intro vals w1 hB _ hd
  exact one_makes (v := .slice (some ⟨w1.heap.size, 0, none⟩) 1 1) (w' := w1.alloc (.cells #[.int .i64 (buf.length : Int)] 3)) rfl (by kernel_rfl) (post_makes rfl ⟨w1.heap.size, rfl, heap_alloc_new w1 _⟩ (below_alloc_self _ _))
 ·intro vals w1 hB _ hd
  have d2 : OwnI w1 (S + 1) (vals 2) si := hd 2 (by kernel_rfl)
  obtain ⟨g, e6, hh⟩ : ∃ g, vals 6 = .slice (some ⟨g, 0, none⟩) 1 1 ∧ w1.heap[g]? = some (.cells #[.int .i64 (buf.length : Int)] 3 (0, 0)) := hd 6 (by kernel_rfl)
  clear hd
  refine one_append rfl (.tmp 8) (.tmp 12) _ rfl (S + 1) _ _ 1 8 Try.underlying22 info_int rfl (by omega) (v := vals 2) (by kernel_rfl) d2 (A := some ⟨g, 0, none⟩) (m := 1) (c := 1) ?_ (reads_block (cs := intCs [(buf.length : Int)]) hh rfl) (intCs_one_cell _) (by simp only [maxLen]; omega) (by omega) (by have := hB.size; omega) ?_
  ·rw [vals_at e6]
   kernel_rfl
  intro v2 w2 h1 h2 h3
  have h1 : OwnI w2 (S + 1) v2 (si ++ [(buf.length : Int)]) := by unfold OwnI; rw [intCs_append, List.length_append]; exact h1
  exact post_turns rfl h1 (hB.grown h2 (by have := hB.size; omega) (fun k hk => (World.ownsRow.lt d2 k hk).1)) trivial h2.size trivial
 ·intro vals w1 hB _ hd
  have d7 : OwnI w1 (S + 1) (vals 7) (si ++ [(buf.length : Int)]) := hd 7 (by kernel_rfl)
  exact one_value (v := vals 7) rfl (by kernel_rfl) (post_gets rfl d7)
 intro vals w3 hB _ hr
 have O3 : OwnI w3 (S + 1) (vals 8) (si ++ [(buf.length : Int)]) := hr 8 (by simp) (by simp)
 clear hr
 simp only [fillT, Tell.is, Tell.makes, Tell.gets, Tell.turns, Act.put, List.setIfInBounds_toArray, List.set_cons_zero, List.set_cons_succ]
 have XB := Kept.mk (XB.out w3 hB)
 have W3 := Kept.mk (bS.out.trans (hB.mono (by omega)))
 have S3 : S + 1 ≤ w3.heap.size := by have := hB.size; omega
 have O3 := Kept.mk O3
 clear bS hsz hB
 rw [show vals (0 + 1 + 1 + 1 + 1 + 1 + 1 + 1 + 1) = vals 8 from rfl]
 generalize vals 8 = v3 at *
 have Y1 := fun j => cell_of_row w3 S j _ _ _ XB.out
 go_wp2_with fail
 go_loopw [3, 17] (fun v i wr => ∃ k : Nat, k ≤ buf.length ∧ i = .int .i64 k ∧ OwnI wr (S + 1) v ((si ++ [(buf.length : Int)]) ++ entsInts (buf.take k)) ∧ Below (S + 1) w3 wr) (fun _ i _ => buf.length - (intOf i).toNat)
 case atStart => exact ⟨0, Nat.zero_le _, rfl, by simpa [entsInts] using O3.out, Below.refl _ _⟩
 case round =>
  clear Y1
  obtain ⟨k, hk, rfl, ho, hb3⟩ := hrel
  obtain ⟨⟨vA, vN, vC⟩, rfl, ho⟩ := OwnI.sl ho
  have Sr : S + 1 ≤ wr.heap.size := by have := hb3.size; omega
  have XR := Kept.mk ((hb3.block S (by omega)).trans XB.out)
  have WR := Kept.mk (W3.out.trans (hb3.mono (by omega)))
  have HB3 := Kept.mk hb3
  have HO := Kept.mk ho
  clear hb3 ho
  by_cases hlt : k < buf.length
  ·have hki : (k : Int) < (buf.length : Int) := by omega
   obtain ⟨eB, eO, rfl, heb, EA⟩ := RdE.at_ (HBR.out.past (by rw [HS.out]; exact WR.out)) hlt
   have HTK := Kept.mk (entsInts_take hlt)
   generalize hee : buf[k] = e at *
   obtain ⟨e0, e1, e2, e3, e4, e5, e6, e7⟩ := e
   have hes : (entsInts (buf.take k)).length ≤ 640000 := by rw [entsInts_length, List.length_take]; omega
   have HN : Kept (some wr.heap.size ≠ (Value.slice vA vN vC).ownBlock) := ⟨fun h => by have := (World.ownsRow.lt HO.out _ h.symm).2; omega⟩
   go_upto_region 5 with (fail)
   have bE := below_alloc_self wr (.cells #[.int .i64 e0, .int .i64 e1, .int .i64 e2, .int .i64 e3, .int .i64 e4, .bool e5, .bool e6, .bool e7] 55)
   have HO2 := Kept.mk (OwnI.past HO.out bE)
   have XE := Kept.mk (heap_alloc_new wr (.cells #[.int .i64 e0, .int .i64 e1, .int .i64 e2, .int .i64 e3, .int .i64 e4, .bool e5, .bool e6, .bool e7] 55))
   have HB4 := Kept.mk (HB3.out.trans (bE.mono Sr))
   have S4 : S + 1 ≤ (wr.alloc (.cells #[.int .i64 e0, .int .i64 e1, .int .i64 e2, .int .i64 e3, .int .i64 e4, .bool e5, .bool e6, .bool e7] 55)).heap.size := by simp; omega
   have S5 : wr.heap.size < (wr.alloc (.cells #[.int .i64 e0, .int .i64 e1, .int .i64 e2, .int .i64 e3, .int .i64 e4, .bool e5, .bool e6, .bool e7] 55)).heap.size := by simp
   clear bE
   generalize wr.alloc (.cells #[.int .i64 e0, .int .i64 e1, .int .i64 e2, .int .i64 e3, .int .i64 e4, .bool e5, .bool e6, .bool e7] 55) = w4 at *
   refine cnc_region w4 (S + 1) wr.heap.size (.slice vA vN vC) ((si ++ [(buf.length : Int)]) ++ entsInts (buf.take k)) ⟨e0, e1, e2, e3, e4, e5, e6, e7⟩ HO2 XE S5 HN.out (by rw [List.length_append, List.length_append, List.length_singleton]; omega) S4 _ ?_
   intros
   rename_i w5 O5 b5
   have O5 : Kept (OwnI w5 (S + 1) _ ((si ++ [(buf.length : Int)]) ++ entsInts (buf.take (k + 1)))) := ⟨by rw [HTK.out, ← List.append_assoc]; exact O5⟩
   have HB5 := Kept.mk (HB4.out.trans b5)
   have wk : IntKind.i64.wrap ((k : Int) + 1) = (k : Int) + 1 := IntWalk.i64_in _ (by omega)
   clear b5 HB4 HO2 HO XE WR HTK XR
   go_wp2_with fail
   go_roundw
   case rel => exact ⟨k + 1, by omega, by go_num, O5.out, HB5.out⟩
   case measure => simp [intOf]; omega
  ·have hki : ¬ (k : Int) < (buf.length : Int) := by omega
   have hke : buf.take k = buf := List.take_of_length_le (by omega)
   rw [hke] at HO
   have hes : (entsInts buf).length ≤ 640000 := by rw [entsInts_length]; omega
   have Y1 := fun j => cell_of_row wr S j _ _ _ XR.out
   clear hke
   go_wp2_with (at_builtin; go_must (refine append_int _ rfl (.tmp 44) (.tmp 48) rfl (S + 1) rfl (OwnI.past HO.out (below_alloc_self _ _)) _ (rsb.length : Int) rfl (heap_at_new (by simp)) (by simp; omega) (by simp; omega) ?_))
   intro v4 w4 O4 g4 b4
   have b4 := ((Below.refl (S + 1) wr).alloc Sr (.cells #[.int .i64 (rsb.length : Int)] 3)).trans b4
   have XR := Kept.mk ((b4.block S (by omega)).trans XR.out)
   have W4 := Kept.mk (WR.out.trans (b4.mono (by omega)))
   have S4 : S + 1 ≤ w4.heap.size := by have := b4.size; omega
   have O4 := Kept.mk O4
   clear HO Y1 WR g4 b4 Sr HB3
   have Y1 := fun j => cell_of_row w4 S j _ _ _ XR.out
   go_wp2_with (at_builtin; go_must (refine append_nums _ rfl (.tmp 50) (.tmp 52) rfl (S + 1) rfl O4.out (m := rsb) rfl (HQR.out.past (by rw [HS.out]; exact W4.out)) (by simp; omega) S4 ?_))
   intro v5 w5 O5 g5 b5
   have XR := Kept.mk ((b5.block S (by omega)).trans XR.out)
   have W5 := Kept.mk (W4.out.trans (b5.mono (by omega)))
   have S5 : S + 1 ≤ w5.heap.size := by have := b5.size; omega
   have O5 := Kept.mk O5
   clear O4 Y1 W4 g5 b5 S4
   have Y1 := fun j => cell_of_row w5 S j _ _ _ XR.out
   go_wp2_with (at_builtin; go_must (refine append_int _ rfl (.tmp 54) (.tmp 57) rfl (S + 1) rfl (OwnI.past O5.out (below_alloc_self _ _)) _ fin rfl (heap_at_new (by simp)) (by simp; omega) (by simp; omega) ?_))
   intro v6 w6 O6 g6 b6
   have b6 := ((Below.refl (S + 1) w5).alloc S5 (.cells #[.int .i64 fin] 3)).trans b6
   have W6 := Kept.mk (W5.out.trans (b6.mono (by omega)))
   have S6 : S + 1 ≤ w6.heap.size := by have := b6.size; omega
   have O6 : OwnI w6 (S + 1) v6 RES := by rw [HCF.out]; simpa only [List.append_assoc, List.cons_append, List.nil_append] using O6
   obtain ⟨A6, c6, rfl, _, R6⟩ := O6.shape
   have R6 := Kept.mk R6
   clear O5 Y1 W5 g6 b6 S5 XR O6
   go_wp2_with fail
   refine (code_put A6 RES.length c6 RES w6 rfl R6.out H64.out hRL).mono ?_
   rintro en w7 ⟨v7, rfl, O7, b7⟩
   have W7 := Kept.mk (W6.out.trans (b7.mono (by omega)))
   have O7 := Kept.mk (O7.lower (show S ≤ w6.heap.size by omega))
   clear W6 b7 R6
   go_wp2_with fail
   go_ret
   exact ⟨v7, rfl, by rw [HS.out]; exact O7.out, by rw [HS.out]; exact W7.out⟩
end Go.Proofs.Ytchldbkjapnlcaa
end
