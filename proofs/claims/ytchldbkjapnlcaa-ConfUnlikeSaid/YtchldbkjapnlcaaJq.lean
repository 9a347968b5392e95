/- A machine as numbers, by the document's own. Whether two machines are the same, by the document's own. -/
import Derived.Test.YtchldbkjapnlcaaJd
import Derived.Test.YtchldbkjapnlcaaJp
import Derived.Test.YtchldbkjapnlcaaJc
import Derived.Test.YtchldbkjapnlcaaJe
import Derived.Deep.DeepCutAuto
set_option linter.unusedVariables false
set_option linter.unusedSimpArgs false
section
namespace Go.Proofs.Ytchldbkjapnlcaa
open Go.RowKit

noncomputable def regN (id : Nat) : Code := (Try.f48.body.bind (findRegion id)).getD .skip
/-- What holds while an entry's numbers are put behind a row. -/
structure IZ (w0 : World) (N0 : Nat) (v0 : Value) (l : List Int) (ap : Nat) (done : Nat → Bool) (vals : Nat → Value) (w : World) : Prop where
 s : w0.heap.size ≤ w.heap.size
 g : w0.grownBy w v0.ownBlock
 r : done ap = false → OwnI w N0 v0 l
section
variable {w0 w w' : World} {N0 : Nat} {v0 : Value} {l : List Int} {ap : Nat} {done : Nat → Bool} {vals : Nat → Value}
theorem IZ.start (h : OwnI w0 N0 v0 l) : IZ w0 N0 v0 l ap (fun _ => false) (fun _ => undef) w0.drew := ⟨Nat.le_refl _, grown_below (Below.refl _ _).drew _, fun _ => OwnI.past h (Below.refl _ _).drew⟩
theorem IZ.other {i : Nat} {v : Value} (h : IZ w0 N0 v0 l ap done vals w) (ha : ¬ ap = i) (hb : Below w.heap.size w w') : IZ w0 N0 v0 l ap (fun j => done j || j == i) (fun j => if j = i then v else vals j) w' := by
 have e : (done ap || ap == i) = done ap := by rw [show (ap == i) = false by simpa using ha, Bool.or_false]
 refine ⟨Nat.le_trans h.s hb.size, h.g.trans (grown_below hb _), fun hd => ?_⟩
 have hd : (done ap || ap == i) = false := hd
 rw [e] at hd
 exact OwnI.past (h.r hd) hb
theorem IZ.app {v : Value} (h : IZ w0 N0 v0 l ap done vals w) (hg : w.grownBy w' v0.ownBlock) : IZ w0 N0 v0 l ap (fun j => done j || j == ap) (fun j => if j = ap then v else vals j) w' := by
 refine ⟨Nat.le_trans h.s hg.size, h.g.trans hg, fun hd => ?_⟩
 have hd : (done ap || ap == ap) = false := hd
 simp at hd
end
theorem own_full {w : World} {B : Nat} (l : List Int) {cs : Array Value} {n : Nat} (hn : l.length = n) (hcs : cs = (intCs l).toArray) (hB : B ≤ w.heap.size) (hm : n ≤ maxLen) : OwnI (w.alloc (.cells cs 3)) B (.slice (some ⟨w.heap.size, 0, none⟩) n n) l := by
 subst hn hcs
 exact ⟨by rw [intCs_length, Nat.mul_one], .inr ⟨w.heap.size, l.length, _, rfl, hB, heap_alloc_new w _, Nat.le_refl _, hm, by simp [intCs], by rw [Nat.mul_one, List.toList_toArray, List.take_of_length_le (by rw [intCs_length]; exact Nat.le_refl _)]⟩⟩
theorem truth_any (b : Bool) (w : World) : Calls Try.prog 84 #[.bool b] w fun en w' => en = .returned (.int .i64 (tI b)) ∧ Below w.heap.size w w' := by
 cases b
 all_goals
  go_enter Try.func84, Try.ntmps84
  go_wp2_with fail
  go_ret
  exact ⟨rfl, by go_grown⟩
set_option maxRecDepth 100000 in
set_option maxHeartbeats 2000000 in
/-- An entry's eight numbers are put behind all. -/
theorem ints_region {z0 z1 z2 z4 z6 z7 z8 z9 z10 z11 z12 z13 z14 z15 z16 z17 z18 z19 z20 z21 z22 z23 z24 z25 z26 z27 z28 z29 z30 z31 z32 z33 z34 z35 z36 z37 z38 z39 z40 z41 z42 z43 z44 z45 z46 z47 z48 z49 z50 z51 z52 z53 z54 z55 z56 z57 z58 z59 z60 z61 z62 z63 : Value} (w0 : World) (N0 S5 : Nat) (v0 : Value) (l : List Int) (e : Ent) (HO : Kept (OwnI w0 N0 v0 l)) (XE : Kept (w0.heap[S5]? = some (.cells e.cs.toArray 55 (0, 0)))) (hS5 : S5 < w0.heap.size) (hne : some S5 ≠ v0.ownBlock) (hl : l.length ≤ 900000) (hN : N0 ≤ w0.heap.size) (Q : Exit → Act → World → Prop)
  (hQ : ∀ (u3 u27 u28 u29 u30 u31 u32 u33 u34 u35 u36 u37 u38 u39 u40 u41 u42 u43 u44 u45 u46 u47 u48 : Value) (w' : World), OwnI w' N0 u3 (l ++ entInts e) → Below N0 w0 w' → Q .normal ⟨#[z0, z1, z2, u3, z4, .pointer (some ⟨S5, 0, none⟩), z6, z7, z8, z9, z10, z11, z12, z13, z14, z15, z16, z17, z18, z19, z20, z21, z22, z23, z24, z25, z26, u27, u28, u29, u30, u31, u32, u33, u34, u35, u36, u37, u38, u39, u40, u41, u42, u43, u44, u45, u46, u47, u48, z49, z50, z51, z52, z53, z54, z55, z56, z57, z58, z59, z60, z61, z62, z63], []⟩ w') :
  Code.wp Try.prog (regN 7) Q ⟨#[z0, z1, z2, v0, z4, .pointer (some ⟨S5, 0, none⟩), z6, z7, z8, z9, z10, z11, z12, z13, z14, z15, z16, z17, z18, z19, z20, z21, z22, z23, z24, z25, z26, z27, z28, z29, z30, z31, z32, z33, z34, z35, z36, z37, z38, z39, z40, z41, z42, z43, z44, z45, z46, z47, z48, z49, z50, z51, z52, z53, z54, z55, z56, z57, z58, z59, z60, z61, z62, z63], []⟩ w0 := by
 conv => arg 2; whnf
 refine region_telll (z := 22) (dz := 3) (v0 := v0) rfl (fun done vals w => IZ w0 N0 v0 l 21 done vals w) (N0) (G := fun _ => True) (ts := [
   .is (v0),
   .is (Value.pointer (some ⟨S5, 0, none⟩)),
   .is (.int .i64 e.pc),
   .is (Value.pointer (some ⟨S5, 1, none⟩)),
   .is (.int .i64 e.val),
   .is (Value.pointer (some ⟨S5, 2, none⟩)),
   .is (.int .i64 e.addr),
   .is (Value.pointer (some ⟨S5, 3, none⟩)),
   .is (.int .i64 e.frm),
   .is (Value.pointer (some ⟨S5, 4, none⟩)),
   .is (.int .i64 e.next),
   .is (Value.pointer (some ⟨S5, 5, none⟩)),
   .is (.bool e.done),
   .draws (.int .i64 (tI e.done)),
   .is (Value.pointer (some ⟨S5, 6, none⟩)),
   .is (.bool e.known),
   .draws (.int .i64 (tI e.known)),
   .is (Value.pointer (some ⟨S5, 7, none⟩)),
   .is (.bool e.fault),
   .draws (.int .i64 (tI e.fault)),
   .makes (fun v w => ∃ g, v = .slice (some ⟨g, 0, none⟩) 8 8 ∧ w.heap[g]? = some (.cells (intCs (entInts e)).toArray 3 (0, 0))),
   .turns (fun v w => OwnI w N0 v (l ++ entInts e)) (fun _ _ => True),
   .gets (fun v w => OwnI w N0 v (l ++ entInts e))])
  (fin := [22]) (cs := []) ?z0 ?zg (by kernel_rfl) rfl (by kernel_rfl) (by kernel_rfl)
  ⟨trivial, trivial, trivial, trivial, trivial, trivial, trivial, trivial, trivial, trivial, trivial, trivial, trivial, trivial, trivial, trivial, trivial, trivial, trivial, trivial, (fun _ _ _ ⟨g, h1, h2⟩ hb => ⟨g, h1, heap_keep h2 hb⟩), (fun _ _ _ h hb => OwnI.past h hb), (fun _ _ _ h hb => OwnI.past h hb), trivial⟩ (fun _ _ _ _ => trivial) ?cs (by omega) trivial
  ⟨?_, ?_, ?_, ?_, ?_, ?_, ?_, ?_, ?_, ?_, ?_, ?_, ?_, ?_, ?_, ?_, ?_, ?_, ?_, ?_, ?_, ?_, ?_, trivial⟩ ?_
 case z0 =>
  show _
  exact IZ.start HO.out
 case zg =>
  intro i done vals w1 w2 v hti hni hZ hb
  have hz := hZ
  ·skip
   have hz : IZ w0 N0 v0 l 21 done vals w1 := hz
   have ha : ¬ 21 = i := by rintro rfl; cases hti
   exact hz.other ha hb
 case cs =>
  intro p hp v w1 w2 hG hR hE
  simp only [List.mem_cons, List.not_mem_nil, or_false] at hp
 ·intro done vals w1 hB _ hZ hni hcl hdn hd
  clear hd
  refine one_value (v := v0) rfl ?_ ⟨post_is rfl, noturn rfl⟩
  kernel_rfl
 ·intro done vals w1 hB _ hZ hni hcl hdn hd
  clear hd
  refine one_value (v := Value.pointer (some ⟨S5, 0, none⟩)) rfl ?_ ⟨post_is rfl, noturn rfl⟩
  kernel_rfl
 ·intro done vals w1 hB _ hZ hni hcl hdn hd
  clear hd
  have hz : IZ w0 N0 v0 l 21 done vals w1 := hZ
  refine one_value (v := .int .i64 e.pc) rfl ?_ ⟨post_is rfl, noturn rfl⟩
  exact exec_cell rfl (by kernel_rfl) (CellsAt.of_block (t := 55) (fr := (0, 0)) (cs := e.cs) ((hz.g.block S5 hS5 hne).trans XE.out) 0 _ rfl) Try.underlying3 rfl
 ·intro done vals w1 hB _ hZ hni hcl hdn hd
  clear hd
  refine one_value (v := Value.pointer (some ⟨S5, 1, none⟩)) rfl ?_ ⟨post_is rfl, noturn rfl⟩
  kernel_rfl
 ·intro done vals w1 hB _ hZ hni hcl hdn hd
  clear hd
  have hz : IZ w0 N0 v0 l 21 done vals w1 := hZ
  refine one_value (v := .int .i64 e.val) rfl ?_ ⟨post_is rfl, noturn rfl⟩
  exact exec_cell rfl (by kernel_rfl) (CellsAt.of_block (t := 55) (fr := (0, 0)) (cs := e.cs) ((hz.g.block S5 hS5 hne).trans XE.out) 1 _ rfl) Try.underlying3 rfl
 ·intro done vals w1 hB _ hZ hni hcl hdn hd
  clear hd
  refine one_value (v := Value.pointer (some ⟨S5, 2, none⟩)) rfl ?_ ⟨post_is rfl, noturn rfl⟩
  kernel_rfl
 ·intro done vals w1 hB _ hZ hni hcl hdn hd
  clear hd
  have hz : IZ w0 N0 v0 l 21 done vals w1 := hZ
  refine one_value (v := .int .i64 e.addr) rfl ?_ ⟨post_is rfl, noturn rfl⟩
  exact exec_cell rfl (by kernel_rfl) (CellsAt.of_block (t := 55) (fr := (0, 0)) (cs := e.cs) ((hz.g.block S5 hS5 hne).trans XE.out) 2 _ rfl) Try.underlying3 rfl
 ·intro done vals w1 hB _ hZ hni hcl hdn hd
  clear hd
  refine one_value (v := Value.pointer (some ⟨S5, 3, none⟩)) rfl ?_ ⟨post_is rfl, noturn rfl⟩
  kernel_rfl
 ·intro done vals w1 hB _ hZ hni hcl hdn hd
  clear hd
  have hz : IZ w0 N0 v0 l 21 done vals w1 := hZ
  refine one_value (v := .int .i64 e.frm) rfl ?_ ⟨post_is rfl, noturn rfl⟩
  exact exec_cell rfl (by kernel_rfl) (CellsAt.of_block (t := 55) (fr := (0, 0)) (cs := e.cs) ((hz.g.block S5 hS5 hne).trans XE.out) 3 _ rfl) Try.underlying3 rfl
 ·intro done vals w1 hB _ hZ hni hcl hdn hd
  clear hd
  refine one_value (v := Value.pointer (some ⟨S5, 4, none⟩)) rfl ?_ ⟨post_is rfl, noturn rfl⟩
  kernel_rfl
 ·intro done vals w1 hB _ hZ hni hcl hdn hd
  clear hd
  have hz : IZ w0 N0 v0 l 21 done vals w1 := hZ
  refine one_value (v := .int .i64 e.next) rfl ?_ ⟨post_is rfl, noturn rfl⟩
  exact exec_cell rfl (by kernel_rfl) (CellsAt.of_block (t := 55) (fr := (0, 0)) (cs := e.cs) ((hz.g.block S5 hS5 hne).trans XE.out) 4 _ rfl) Try.underlying3 rfl
 ·intro done vals w1 hB _ hZ hni hcl hdn hd
  clear hd
  refine one_value (v := Value.pointer (some ⟨S5, 5, none⟩)) rfl ?_ ⟨post_is rfl, noturn rfl⟩
  kernel_rfl
 ·intro done vals w1 hB _ hZ hni hcl hdn hd
  clear hd
  have hz : IZ w0 N0 v0 l 21 done vals w1 := hZ
  refine one_value (v := .bool e.done) rfl ?_ ⟨post_is rfl, noturn rfl⟩
  exact exec_cell rfl (by kernel_rfl) (CellsAt.of_block (t := 55) (fr := (0, 0)) (cs := e.cs) ((hz.g.block S5 hS5 hne).trans XE.out) 5 _ rfl) Try.underlying4 rfl
 ·intro done vals w1 hB _ hZ hni hcl hdn hd
  clear hd
  have hz : IZ w0 N0 v0 l 21 done vals w1 := hZ
  refine one_calls (f := 84) (args := #[.bool e.done]) (w1 := w1) rfl (by kernel_rfl) ?_
  refine (truth_any e.done w1).mono ?_
  rintro e1 w2 ⟨rfl, h2⟩
  exact ⟨_, rfl, post_draws rfl h2, noturn rfl⟩
 ·intro done vals w1 hB _ hZ hni hcl hdn hd
  clear hd
  refine one_value (v := Value.pointer (some ⟨S5, 6, none⟩)) rfl ?_ ⟨post_is rfl, noturn rfl⟩
  kernel_rfl
 ·intro done vals w1 hB _ hZ hni hcl hdn hd
  clear hd
  have hz : IZ w0 N0 v0 l 21 done vals w1 := hZ
  refine one_value (v := .bool e.known) rfl ?_ ⟨post_is rfl, noturn rfl⟩
  exact exec_cell rfl (by kernel_rfl) (CellsAt.of_block (t := 55) (fr := (0, 0)) (cs := e.cs) ((hz.g.block S5 hS5 hne).trans XE.out) 6 _ rfl) Try.underlying4 rfl
 ·intro done vals w1 hB _ hZ hni hcl hdn hd
  clear hd
  have hz : IZ w0 N0 v0 l 21 done vals w1 := hZ
  refine one_calls (f := 84) (args := #[.bool e.known]) (w1 := w1) rfl (by kernel_rfl) ?_
  refine (truth_any e.known w1).mono ?_
  rintro e1 w2 ⟨rfl, h2⟩
  exact ⟨_, rfl, post_draws rfl h2, noturn rfl⟩
 ·intro done vals w1 hB _ hZ hni hcl hdn hd
  clear hd
  refine one_value (v := Value.pointer (some ⟨S5, 7, none⟩)) rfl ?_ ⟨post_is rfl, noturn rfl⟩
  kernel_rfl
 ·intro done vals w1 hB _ hZ hni hcl hdn hd
  clear hd
  have hz : IZ w0 N0 v0 l 21 done vals w1 := hZ
  refine one_value (v := .bool e.fault) rfl ?_ ⟨post_is rfl, noturn rfl⟩
  exact exec_cell rfl (by kernel_rfl) (CellsAt.of_block (t := 55) (fr := (0, 0)) (cs := e.cs) ((hz.g.block S5 hS5 hne).trans XE.out) 7 _ rfl) Try.underlying4 rfl
 ·intro done vals w1 hB _ hZ hni hcl hdn hd
  clear hd
  have hz : IZ w0 N0 v0 l 21 done vals w1 := hZ
  refine one_calls (f := 84) (args := #[.bool e.fault]) (w1 := w1) rfl (by kernel_rfl) ?_
  refine (truth_any e.fault w1).mono ?_
  rintro e1 w2 ⟨rfl, h2⟩
  exact ⟨_, rfl, post_draws rfl h2, noturn rfl⟩
 ·intro done vals w1 hB _ hZ hni hcl hdn hd
  clear hd
  exact one_makes (v := .slice (some ⟨w1.heap.size, 0, none⟩) 8 8) (w' := w1.alloc (.cells #[.int .i64 e.pc, .int .i64 e.val, .int .i64 e.addr, .int .i64 e.frm, .int .i64 e.next, .int .i64 (tI e.done), .int .i64 (tI e.known), .int .i64 (tI e.fault)] 3)) rfl (by kernel_rfl) ⟨post_makes rfl ⟨w1.heap.size, rfl, heap_alloc_new w1 _⟩ (below_alloc_self _ _), noturn rfl⟩
 ·intro done vals w1 hB _ hZ hni hcl hdn hd
  obtain ⟨g, eb, hh⟩ : ∃ g, vals 20 = .slice (some ⟨g, 0, none⟩) 8 8 ∧ w1.heap[g]? = some (.cells (intCs (entInts e)).toArray 3 (0, 0)) := hd 20 (by kernel_rfl)
  clear hd
  have hz : IZ w0 N0 v0 l 21 done vals w1 := hZ
  have ho := hz.r hni
  refine one_append rfl (.tmp 27) (.tmp 47) _ rfl N0 _ _ 1 8 Try.underlying22 info_int rfl (by omega) (v := v0) (by kernel_rfl) ho (A := some ⟨g, 0, none⟩) (m := 8) (c := 8) ?_ (reads_block (cs := intCs (entInts e)) hh rfl) (intCs_one_cell _) (by simp only [maxLen]; omega) (by omega) (by have := hz.s; omega) ?_
  ·rw [vals_at eb]
   kernel_rfl
  intro v2 w2 h1 h2 h3
  have h1 : OwnI w2 N0 v2 (l ++ entInts e) := by unfold OwnI; rw [intCs_append, List.length_append]; exact h1
  exact ⟨post_turns rfl h1 (hB.grown h2 (by have := hz.s; omega) (fun k hk => by have := (World.ownsRow.lt ho k hk).1; omega)) trivial h2.size trivial, fun _ => hz.app h2⟩
 ·intro done vals w1 hB _ hZ hni hcl hdn hd
  have da : OwnI w1 N0 (vals 21) (l ++ entInts e) := hd 21 (by kernel_rfl)
  clear hd
  refine one_value (v := vals 21) rfl ?_ ⟨post_gets rfl da, noturn rfl⟩
  kernel_rfl
 intro done vals w9 b9 _ hall hZ hr
 have hz : IZ w0 N0 v0 l 21 done vals w9 := hZ
 have has := hr 22 (by simp) (by simp)
 simp only [fillT, Tell.is, Tell.draws, Tell.makes, Tell.gets, Tell.turns, Act.put, List.setIfInBounds_toArray, List.set_cons_zero, List.set_cons_succ]
 exact hQ _ _ _ _ _ _ _ _ _ _ _ _ _ _ _ _ _ _ _ _ _ _ _ w9 has b9
set_option maxRecDepth 100000 in
set_option maxHeartbeats 1600000 in
theorem ints7 (c : Stt) (s : State) (w : World) (h : StIs w c s) (hm : s.mem.length ≤ 1000) (hs : s.stack.length ≤ 1000) : Calls Try.prog 76 #[c.v] w (GivesI w (stInts s)) := by
 obtain ⟨r0, r1, r2, r3, ⟨mA, mN, mC⟩, ⟨sA, sN, sC⟩, pc⟩ := c
 obtain ⟨q0, q1, q2, q3, mem, stack, qc⟩ := s
 obtain ⟨h0, h1, h2, h3, ⟨hmn, hmc, hmr⟩, ⟨hsn, hsc, hsr⟩, hpc⟩ := h
 simp only at h0 h1 h2 h3 hpc hmn hsn hm hs hmr hsr
 subst h0 h1 h2 h3 hpc hmn hsn
 have HMR := Kept.mk hmr
 have HSR := Kept.mk hsr
 clear hmc hsc hmr hsr
 go_enter Try.func76, Try.ntmps76
 go_upto_region 2 with (fail)
 have XB := heap_keep (heap_alloc_new w (.cells #[.int .i64 r0, .int .i64 r1, .int .i64 r2, .int .i64 r3, .slice mA mem.length mC, .slice sA stack.length sC, .int .i64 pc] 36)) (below_alloc_self _ (.cells #[.int .i64 r0, .int .i64 r1, .int .i64 r2, .int .i64 r3, .int .i64 (mem.length : Int)] 3))
 have O1 := own_full (w := w.alloc (.cells #[.int .i64 r0, .int .i64 r1, .int .i64 r2, .int .i64 r3, .slice mA mem.length mC, .slice sA stack.length sC, .int .i64 pc] 36)) (B := w.heap.size + 1) (cs := #[.int .i64 r0, .int .i64 r1, .int .i64 r2, .int .i64 r3, .int .i64 (mem.length : Int)]) (n := 5) [r0, r1, r2, r3, (mem.length : Int)] rfl rfl (by simp) (by decide)
 rw [World.size_alloc] at O1
 have W1 := Kept.mk ((below_alloc_self w (.cells #[.int .i64 r0, .int .i64 r1, .int .i64 r2, .int .i64 r3, .slice mA mem.length mC, .slice sA stack.length sC, .int .i64 pc] 36)).alloc (by simp) (.cells #[.int .i64 r0, .int .i64 r1, .int .i64 r2, .int .i64 r3, .int .i64 (mem.length : Int)] 3))
 have S1 : w.heap.size + 1 ≤ ((w.alloc (.cells #[.int .i64 r0, .int .i64 r1, .int .i64 r2, .int .i64 r3, .slice mA mem.length mC, .slice sA stack.length sC, .int .i64 pc] 36)).alloc (.cells #[.int .i64 r0, .int .i64 r1, .int .i64 r2, .int .i64 r3, .int .i64 (mem.length : Int)] 3)).heap.size := by simp
 generalize (w.alloc (.cells #[.int .i64 r0, .int .i64 r1, .int .i64 r2, .int .i64 r3, .slice mA mem.length mC, .slice sA stack.length sC, .int .i64 pc] 36)).alloc (.cells #[.int .i64 r0, .int .i64 r1, .int .i64 r2, .int .i64 r3, .int .i64 (mem.length : Int)] 3) = w1 at *
 have Y1 := fun j => cell_of_row w1 w.heap.size j _ _ _ XB
 go_wp2_with (at_builtin; go_must (refine append_nums _ rfl (.tmp 20) (.tmp 22) rfl (w.heap.size + 1) rfl O1 (m := mem) rfl (HMR.out.past W1.out) (by simp; omega) S1 ?_))
 intro v2 w2 O2 g2 b2
 have XB := (b2.block w.heap.size (by omega)).trans XB
 have W2 := Kept.mk (W1.out.trans (b2.mono (by omega)))
 have S2 : w.heap.size + 1 ≤ w2.heap.size := by have := b2.size; omega
 have O2 := Kept.mk O2
 clear O1 Y1 W1 g2 b2 S1
 have Y1 := fun j => cell_of_row w2 w.heap.size j _ _ _ XB
 go_wp2_with (at_builtin; go_must (refine append_int _ rfl (.tmp 24) (.tmp 28) rfl (w.heap.size + 1) rfl (O2.out.past (below_alloc_self _ _)) _ (stack.length : Int) rfl (heap_at_new (by simp)) (by simp; omega) (by simp; omega) ?_))
 intro v3 w3 O3 g3 b3
 have b3 := ((Below.refl (w.heap.size + 1) w2).alloc S2 (.cells #[.int .i64 (stack.length : Int)] 3)).trans b3
 have XB := (b3.block w.heap.size (by omega)).trans XB
 have W3 := Kept.mk (W2.out.trans (b3.mono (by omega)))
 have S3 : w.heap.size + 1 ≤ w3.heap.size := by have := b3.size; omega
 have O3 := Kept.mk O3
 clear O2 Y1 W2 g3 b3 S2
 have Y1 := fun j => cell_of_row w3 w.heap.size j _ _ _ XB
 go_wp2_with (at_builtin; go_must (refine append_nums _ rfl (.tmp 30) (.tmp 32) rfl (w.heap.size + 1) rfl O3.out (m := stack) rfl (HSR.out.past W3.out) (by simp; omega) S3 ?_))
 intro v4 w4 O4 g4 b4
 have XB := (b4.block w.heap.size (by omega)).trans XB
 have W4 := Kept.mk (W3.out.trans (b4.mono (by omega)))
 have S4 : w.heap.size + 1 ≤ w4.heap.size := by have := b4.size; omega
 have O4 := Kept.mk O4
 clear O3 Y1 W3 g4 b4 S3
 have Y1 := fun j => cell_of_row w4 w.heap.size j _ _ _ XB
 go_wp2_with (at_builtin; go_must (refine append_int _ rfl (.tmp 34) (.tmp 37) rfl (w.heap.size + 1) rfl (O4.out.past (below_alloc_self _ _)) _ pc rfl (heap_at_new (by simp)) (by simp; omega) (by simp; omega) ?_))
 intro v5 w5 O5 g5 b5
 have b5 := ((Below.refl (w.heap.size + 1) w4).alloc S4 (.cells #[.int .i64 pc] 3)).trans b5
 have W5 := Kept.mk (W4.out.trans (b5.mono (by omega)))
 have O5 := Kept.mk O5
 clear O4 Y1 W4 g5 b5 S4 XB
 go_wp2_with fail
 go_ret
 exact ⟨v5, rfl, by simpa only [stInts, List.append_assoc, List.cons_append, List.nil_append] using OwnI.lower O5.out (show w.heap.size ≤ w.heap.size + 1 by omega), W5.out⟩
set_option maxRecDepth 100000 in
set_option maxHeartbeats 1600000 in
theorem ints9 (c : Cnf) (m : Conf) (w : World) (h : CfIs w c m) (hm : m.st.mem.length ≤ 1000) (hs : m.st.stack.length ≤ 1000) (hb : m.buf.length ≤ 1000) (hq : m.rsb.length ≤ 1000) : Calls Try.prog 48 #[c.v] w (GivesI w (cfInts m)) := by
 have HC := Kept.mk h
 obtain ⟨⟨r0, r1, r2, r3, ⟨mA, mN, mC⟩, ⟨sA, sN, sC⟩, pc⟩, ⟨bA, bN, bC⟩, ⟨qA, qN, qC⟩, fin⟩ := c
 have H7 := Kept.mk (fun w1 h1 => ints7 ⟨r0, r1, r2, r3, ⟨mA, mN, mC⟩, ⟨sA, sN, sC⟩, pc⟩ m.st w1 h1 hm hs)
 have hsl := stInts_length m.st
 obtain ⟨st, buf, rsb, qf⟩ := m
 obtain ⟨hst, ⟨hbn, hbc, hbr⟩, ⟨hqn, hqc, hqr⟩, hf⟩ := h
 simp only at hf hbn hqn hb hq hbr hqr hm hs hsl
 subst hf hbn hqn
 have HST := Kept.mk hst
 have HBR := Kept.mk hbr
 have HQR := Kept.mk hqr
 clear hbc hqc hbr hqr hst
 generalize hsi : stInts st = si at H7 hsl
 have HSI := Kept.mk hsi
 clear hsi
 have hsl : si.length ≤ 3000 := by omega
 have HCF : Kept (cfInts ⟨st, buf, rsb, fin⟩ = ((((si ++ [(buf.length : Int)]) ++ entsInts buf) ++ [(rsb.length : Int)]) ++ rsb) ++ [fin]) := ⟨by rw [← HSI.out]; rfl⟩
 generalize cfInts ⟨st, buf, rsb, fin⟩ = RES at HCF ⊢
 go_enter Try.func48, Try.ntmps48
 go_upto_region 1 with (fail)
 have XB := heap_alloc_new w (.cells #[.int .i64 r0, .int .i64 r1, .int .i64 r2, .int .i64 r3, .slice mA mN mC, .slice sA sN sC, .int .i64 pc, .slice bA buf.length bC, .slice qA rsb.length qC, .int .i64 fin] 41)
 have W1 := Kept.mk (below_alloc_self w (.cells #[.int .i64 r0, .int .i64 r1, .int .i64 r2, .int .i64 r3, .slice mA mN mC, .slice sA sN sC, .int .i64 pc, .slice bA buf.length bC, .slice qA rsb.length qC, .int .i64 fin] 41))
 have S1 : w.heap.size + 1 ≤ (w.alloc (.cells #[.int .i64 r0, .int .i64 r1, .int .i64 r2, .int .i64 r3, .slice mA mN mC, .slice sA sN sC, .int .i64 pc, .slice bA buf.length bC, .slice qA rsb.length qC, .int .i64 fin] 41)).heap.size := by simp
 generalize w.alloc (.cells #[.int .i64 r0, .int .i64 r1, .int .i64 r2, .int .i64 r3, .slice mA mN mC, .slice sA sN sC, .int .i64 pc, .slice bA buf.length bC, .slice qA rsb.length qC, .int .i64 fin] 41) = w1 at *
 have Y1 := fun j => cell_of_row w1 w.heap.size j _ _ _ XB
 go_wp2_with fail
 refine (H7.out w1 (HST.out.past W1.out)).mono ?_
 rintro en w2 ⟨v2, rfl, O2, b2⟩
 have XB := heap_keep XB b2
 have W2 := Kept.mk (W1.out.trans (b2.mono (by omega)))
 have S2 : w.heap.size + 1 ≤ w2.heap.size := by have := b2.size; omega
 have O2 := Kept.mk (O2.lower S1)
 clear Y1 W1 b2 S1
 have Y1 := fun j => cell_of_row w2 w.heap.size j _ _ _ XB
 go_wp2_with (at_builtin; go_must (refine append_int _ rfl (.tmp 9) (.tmp 13) rfl (w.heap.size + 1) rfl (O2.out.past (below_alloc_self _ _)) _ (buf.length : Int) rfl (heap_at_new (by simp)) (by omega) (by simp; omega) ?_))
 intro v3 w3 O3 g3 b3
 have b3 := ((Below.refl (w.heap.size + 1) w2).alloc S2 (.cells #[.int .i64 (buf.length : Int)] 3)).trans b3
 have XB := Kept.mk ((b3.block w.heap.size (by omega)).trans XB)
 have W3 := Kept.mk (W2.out.trans (b3.mono (by omega)))
 have S3 : w.heap.size + 1 ≤ w3.heap.size := by have := b3.size; omega
 have O3 := Kept.mk O3
 clear O2 Y1 W2 g3 b3 S2
 go_wp2_with fail
 go_loopw [3, 4] (fun v i wr => ∃ k : Nat, k ≤ buf.length ∧ i = .int .i64 k ∧ OwnI wr (w.heap.size + 1) v ((si ++ [(buf.length : Int)]) ++ entsInts (buf.take k)) ∧ Below (w.heap.size + 1) w3 wr) (fun _ i _ => buf.length - (intOf i).toNat)
 case atStart => exact ⟨0, Nat.zero_le _, rfl, by simpa [entsInts] using O3.out, Below.refl _ _⟩
 case round =>
  obtain ⟨k, hk, rfl, ho, hb3⟩ := hrel
  obtain ⟨⟨vA, vN, vC⟩, rfl, ho⟩ := OwnI.sl ho
  have Sr : w.heap.size + 1 ≤ wr.heap.size := by have := hb3.size; omega
  have XR := (hb3.block w.heap.size (by omega)).trans XB.out
  have WR := Kept.mk (W3.out.trans (hb3.mono (by omega)))
  have HB3 := Kept.mk hb3
  have HO := Kept.mk ho
  have Y1 := fun j => cell_of_row wr w.heap.size j _ _ _ XR
  clear hb3 ho
  by_cases hlt : k < buf.length
  ·have hki : (k : Int) < (buf.length : Int) := by omega
   obtain ⟨eB, eO, rfl, heb, EA⟩ := RdE.at_ (HBR.out.past WR.out) hlt
   have HTK := Kept.mk (entsInts_take hlt)
   generalize hee : buf[k] = e at *
   obtain ⟨e0, e1, e2, e3, e4, e5, e6, e7⟩ := e
   have hes : (entsInts (buf.take k)).length ≤ 8000 := by rw [entsInts_length, List.length_take]; omega
   have HN : Kept (some wr.heap.size ≠ (Value.slice vA vN vC).ownBlock) := ⟨fun h => by have := (World.ownsRow.lt HO.out _ h.symm).2; omega⟩
   go_upto_region 7 with (fail)
   have bE := below_alloc_self wr (.cells #[.int .i64 e0, .int .i64 e1, .int .i64 e2, .int .i64 e3, .int .i64 e4, .bool e5, .bool e6, .bool e7] 55)
   have HO2 := Kept.mk (OwnI.past HO.out bE)
   have XE := Kept.mk (heap_alloc_new wr (.cells #[.int .i64 e0, .int .i64 e1, .int .i64 e2, .int .i64 e3, .int .i64 e4, .bool e5, .bool e6, .bool e7] 55))
   have XR := heap_keep XR bE
   have WR := Kept.mk (WR.out.trans (bE.mono (by omega)))
   have HB4 := Kept.mk (HB3.out.trans (bE.mono Sr))
   have S4 : w.heap.size + 1 ≤ (wr.alloc (.cells #[.int .i64 e0, .int .i64 e1, .int .i64 e2, .int .i64 e3, .int .i64 e4, .bool e5, .bool e6, .bool e7] 55)).heap.size := by simp; omega
   have S5 : wr.heap.size < (wr.alloc (.cells #[.int .i64 e0, .int .i64 e1, .int .i64 e2, .int .i64 e3, .int .i64 e4, .bool e5, .bool e6, .bool e7] 55)).heap.size := by simp
   clear Y1 bE
   generalize wr.alloc (.cells #[.int .i64 e0, .int .i64 e1, .int .i64 e2, .int .i64 e3, .int .i64 e4, .bool e5, .bool e6, .bool e7] 55) = w4 at *
   refine ints_region w4 (w.heap.size + 1) wr.heap.size (.slice vA vN vC) ((si ++ [(buf.length : Int)]) ++ entsInts (buf.take k)) ⟨e0, e1, e2, e3, e4, e5, e6, e7⟩ HO2 XE S5 HN.out (by rw [List.length_append, List.length_append, List.length_singleton]; omega) S4 _ ?_
   intros
   rename_i w5 O5 b5
   have O5 : Kept (OwnI w5 (w.heap.size + 1) _ ((si ++ [(buf.length : Int)]) ++ entsInts (buf.take (k + 1)))) := ⟨by rw [HTK.out, ← List.append_assoc]; exact O5⟩
   have HB5 := Kept.mk (HB4.out.trans b5)
   have XR := (b5.block w.heap.size (by omega)).trans XR
   have Y1 := fun j => cell_of_row w5 w.heap.size j _ _ _ XR
   clear b5 HB4 HO2 HO XE WR HTK
   go_wp2_with fail
   go_roundw
   case rel => exact ⟨k + 1, by omega, by go_num, O5.out, HB5.out⟩
   case measure => simp [intOf]; omega
  ·have hki : ¬ (k : Int) < (buf.length : Int) := by omega
   have hke : buf.take k = buf := List.take_of_length_le (by omega)
   rw [hke] at HO
   have hes : (entsInts buf).length ≤ 8000 := by rw [entsInts_length]; omega
   clear hke
   go_wp2_with (at_builtin; go_must (refine append_int _ rfl (.tmp 49) (.tmp 53) rfl (w.heap.size + 1) rfl (OwnI.past HO.out (below_alloc_self _ _)) _ (rsb.length : Int) rfl (heap_at_new (by simp)) (by simp; omega) (by simp; omega) ?_))
   intro v4 w4 O4 g4 b4
   have b4 := ((Below.refl (w.heap.size + 1) wr).alloc Sr (.cells #[.int .i64 (rsb.length : Int)] 3)).trans b4
   have XR := (b4.block w.heap.size (by omega)).trans XR
   have W4 := Kept.mk (WR.out.trans (b4.mono (by omega)))
   have S4 : w.heap.size + 1 ≤ w4.heap.size := by have := b4.size; omega
   have O4 := Kept.mk O4
   clear HO Y1 WR g4 b4 Sr HB3
   have Y1 := fun j => cell_of_row w4 w.heap.size j _ _ _ XR
   go_wp2_with (at_builtin; go_must (refine append_nums _ rfl (.tmp 55) (.tmp 57) rfl (w.heap.size + 1) rfl O4.out (m := rsb) rfl (HQR.out.past W4.out) (by simp; omega) S4 ?_))
   intro v5 w5 O5 g5 b5
   have XR := (b5.block w.heap.size (by omega)).trans XR
   have W5 := Kept.mk (W4.out.trans (b5.mono (by omega)))
   have S5 : w.heap.size + 1 ≤ w5.heap.size := by have := b5.size; omega
   have O5 := Kept.mk O5
   clear O4 Y1 W4 g5 b5 S4
   have Y1 := fun j => cell_of_row w5 w.heap.size j _ _ _ XR
   go_wp2_with (at_builtin; go_must (refine append_int _ rfl (.tmp 59) (.tmp 62) rfl (w.heap.size + 1) rfl (OwnI.past O5.out (below_alloc_self _ _)) _ fin rfl (heap_at_new (by simp)) (by simp; omega) (by simp; omega) ?_))
   intro v6 w6 O6 g6 b6
   have b6 := ((Below.refl (w.heap.size + 1) w5).alloc S5 (.cells #[.int .i64 fin] 3)).trans b6
   have W6 := Kept.mk (W5.out.trans (b6.mono (by omega)))
   have O6 := Kept.mk O6
   clear O5 Y1 W5 g6 b6 S5 XR
   go_wp2_with fail
   go_ret
   refine ⟨v6, rfl, ?_, W6.out⟩
   rw [HCF.out]
   simpa only [List.append_assoc, List.cons_append, List.nil_append] using OwnI.lower O6.out (show w.heap.size ≤ w.heap.size + 1 by omega)
set_option maxRecDepth 100000 in
set_option maxHeartbeats 1600000 in
theorem code9 (c : Cnf) (m : Conf) (w : World) (h : CfIs w c m) (hm : m.st.mem.length ≤ 1000) (hs : m.st.stack.length ≤ 1000) (hb : m.buf.length ≤ 1000) (hq : m.rsb.length ≤ 1000) : Calls Try.prog 34 #[c.v] w (GivesB w (putL (cfInts m))) := by
 have HC := Kept.mk h
 obtain ⟨⟨r0, r1, r2, r3, ⟨mA, mN, mC⟩, ⟨sA, sN, sC⟩, pc⟩, ⟨bA, bN, bC⟩, ⟨qA, qN, qC⟩, fin⟩ := c
 have H9 := Kept.mk (fun w1 h1 => ints9 ⟨⟨r0, r1, r2, r3, ⟨mA, mN, mC⟩, ⟨sA, sN, sC⟩, pc⟩, ⟨bA, bN, bC⟩, ⟨qA, qN, qC⟩, fin⟩ m w1 h1 hm hs hb hq)
 have hL : (cfInts m).length ≤ 20000 := by rw [cfInts_length]; omega
 generalize cfInts m = L at *
 clear h
 go_enter Try.func34, Try.ntmps34
 go_upto_region 1 with (fail)
 have XB := heap_alloc_new w (.cells #[.int .i64 r0, .int .i64 r1, .int .i64 r2, .int .i64 r3, .slice mA mN mC, .slice sA sN sC, .int .i64 pc, .slice bA bN bC, .slice qA qN qC, .int .i64 fin] 41)
 have W1 := Kept.mk (below_alloc_self w (.cells #[.int .i64 r0, .int .i64 r1, .int .i64 r2, .int .i64 r3, .slice mA mN mC, .slice sA sN sC, .int .i64 pc, .slice bA bN bC, .slice qA qN qC, .int .i64 fin] 41))
 generalize w.alloc (.cells #[.int .i64 r0, .int .i64 r1, .int .i64 r2, .int .i64 r3, .slice mA mN mC, .slice sA sN sC, .int .i64 pc, .slice bA bN bC, .slice qA qN qC, .int .i64 fin] 41) = w1 at *
 have Y1 := fun j => cell_of_row w1 w.heap.size j _ _ _ XB
 go_wp2_with fail
 refine (H9.out w1 (HC.out.past W1.out)).mono ?_
 rintro en w2 ⟨v2, rfl, O2, b2⟩
 obtain ⟨A2, c2, rfl, _, R2⟩ := O2.shape
 have W2 := Kept.mk (W1.out.trans (b2.mono W1.out.size))
 have R2 := Kept.mk R2
 clear Y1 W1 b2 O2 XB
 go_wp2_with fail
 refine (ref_putx A2 L.length c2 L w2 rfl R2.out (by omega)).mono ?_
 rintro en w3 ⟨v3, rfl, O3, b3⟩
 have W3 := Kept.mk (W2.out.trans (b3.mono W2.out.size))
 have O3 := Kept.mk (O3.lower W2.out.size)
 clear W2 b3 R2
 go_wp2_with fail
 go_ret
 exact ⟨v3, rfl, O3.out, W3.out⟩
end Go.Proofs.Ytchldbkjapnlcaa
end
section
namespace Go.Proofs.Ytchldbkjapnlcaa
open Go.RowKit

set_option maxRecDepth 100000 in
set_option maxHeartbeats 1600000 in
theorem same9 (cx cy : Cnf) (mx my : Conf) (w : World) (hx : CfIs w cx mx) (hy : CfIs w cy my) (hm : mx.st.mem.length ≤ 1000) (hs : mx.st.stack.length ≤ 1000) (hb : mx.buf.length ≤ 1000) (hq : mx.rsb.length ≤ 1000)
  (km : my.st.mem.length ≤ 1000) (ks : my.st.stack.length ≤ 1000) (kb : my.buf.length ≤ 1000) (kq : my.rsb.length ≤ 1000) : Calls Try.prog 30 #[cx.v, cy.v] w fun en w' => en = .returned (.bool (decide (mx = my))) ∧ Below w.heap.size w w' := by
 have HM : Kept ((cfInts mx = cfInts my) = (mx = my)) := ⟨propext ⟨fun h => cfInts_inj h, fun h => by rw [h]⟩⟩
 have hlx : (cfInts mx).length ≤ 20000 := by rw [cfInts_length]; omega
 have HX0 := Kept.mk (fun w1 h1 => ints9 cx mx w1 h1 hm hs hb hq)
 have HY0 := Kept.mk (fun w1 h1 => ints9 cy my w1 h1 km ks kb kq)
 have hD : decide (mx = my) = decide (cfInts mx = cfInts my) := by simp only [HM.out]
 rw [hD]
 have HCX := Kept.mk hx
 have HCY := Kept.mk hy
 generalize cfInts mx = lx at *
 generalize cfInts my = ly at *
 clear hD HM hm hs hb hq km ks kb kq hx hy
 obtain ⟨⟨xr0, xr1, xr2, xr3, ⟨xmA, xmN, xmC⟩, ⟨xsA, xsN, xsC⟩, xpc⟩, ⟨xbA, xbN, xbC⟩, ⟨xqA, xqN, xqC⟩, xfin⟩ := cx
 obtain ⟨⟨yr0, yr1, yr2, yr3, ⟨ymA, ymN, ymC⟩, ⟨ysA, ysN, ysC⟩, ypc⟩, ⟨ybA, ybN, ybC⟩, ⟨yqA, yqN, yqC⟩, yfin⟩ := cy
 go_enter Try.func30, Try.ntmps30
 go_upto_region 1 with (fail)
 have bb := (below_alloc_self w (.cells #[.int .i64 (xr0), .int .i64 (xr1), .int .i64 (xr2), .int .i64 (xr3), .slice xmA xmN xmC, .slice xsA xsN xsC, .int .i64 (xpc), .slice xbA xbN xbC, .slice xqA xqN xqC, .int .i64 (xfin)] 41)).alloc (by simp) (.cells #[.int .i64 (yr0), .int .i64 (yr1), .int .i64 (yr2), .int .i64 (yr3), .slice ymA ymN ymC, .slice ysA ysN ysC, .int .i64 (ypc), .slice ybA ybN ybC, .slice yqA yqN yqC, .int .i64 (yfin)] 41)
 have x2 := heap_keep (heap_alloc_new w (.cells #[.int .i64 (xr0), .int .i64 (xr1), .int .i64 (xr2), .int .i64 (xr3), .slice xmA xmN xmC, .slice xsA xsN xsC, .int .i64 (xpc), .slice xbA xbN xbC, .slice xqA xqN xqC, .int .i64 (xfin)] 41)) (below_alloc_self _ (.cells #[.int .i64 (yr0), .int .i64 (yr1), .int .i64 (yr2), .int .i64 (yr3), .slice ymA ymN ymC, .slice ysA ysN ysC, .int .i64 (ypc), .slice ybA ybN ybC, .slice yqA yqN yqC, .int .i64 (yfin)] 41))
 have x3 := heap_alloc2_new w (.cells #[.int .i64 (xr0), .int .i64 (xr1), .int .i64 (xr2), .int .i64 (xr3), .slice xmA xmN xmC, .slice xsA xsN xsC, .int .i64 (xpc), .slice xbA xbN xbC, .slice xqA xqN xqC, .int .i64 (xfin)] 41) (.cells #[.int .i64 (yr0), .int .i64 (yr1), .int .i64 (yr2), .int .i64 (yr3), .slice ymA ymN ymC, .slice ysA ysN ysC, .int .i64 (ypc), .slice ybA ybN ybC, .slice yqA yqN yqC, .int .i64 (yfin)] 41)
 have W2 := Kept.mk bb
 clear bb
 generalize (w.alloc (.cells #[.int .i64 (xr0), .int .i64 (xr1), .int .i64 (xr2), .int .i64 (xr3), .slice xmA xmN xmC, .slice xsA xsN xsC, .int .i64 (xpc), .slice xbA xbN xbC, .slice xqA xqN xqC, .int .i64 (xfin)] 41)).alloc (.cells #[.int .i64 (yr0), .int .i64 (yr1), .int .i64 (yr2), .int .i64 (yr3), .slice ymA ymN ymC, .slice ysA ysN ysC, .int .i64 (ypc), .slice ybA ybN ybC, .slice yqA yqN yqC, .int .i64 (yfin)] 41) = w2 at *
 have X2 : Kept (∀ w1, Below w2.heap.size w2 w1 → CellsAt w1 w.heap.size 0 [.int .i64 (xr0), .int .i64 (xr1), .int .i64 (xr2), .int .i64 (xr3), .slice xmA xmN xmC, .slice xsA xsN xsC, .int .i64 (xpc), .slice xbA xbN xbC, .slice xqA xqN xqC, .int .i64 (xfin)]) := ⟨fun w1 hb => CellsAt.of_block (heap_keep x2 hb)⟩
 have X3 : Kept (∀ w1, Below w2.heap.size w2 w1 → CellsAt w1 (w.heap.size + 1) 0 [.int .i64 (yr0), .int .i64 (yr1), .int .i64 (yr2), .int .i64 (yr3), .slice ymA ymN ymC, .slice ysA ysN ysC, .int .i64 (ypc), .slice ybA ybN ybC, .slice yqA yqN yqC, .int .i64 (yfin)]) := ⟨fun w1 hb => CellsAt.of_block (heap_keep x3 hb)⟩
 have HX := Kept.mk (fun w1 (hb : Below w2.heap.size w2 w1) => HX0.out w1 ((HCX.out.past W2.out).past hb))
 have HY := Kept.mk (fun w1 (hb : Below w2.heap.size w2 w1) => HY0.out w1 ((HCY.out.past W2.out).past hb))
 clear HX0 HY0 HCX HCY x2 x3
 refine region_tell (w2.heap.size) (G := fun _ => True) (ts := [
   .is (Value.agg #[.int .i64 (xr0), .int .i64 (xr1), .int .i64 (xr2), .int .i64 (xr3), .slice xmA xmN xmC, .slice xsA xsN xsC, .int .i64 (xpc), .slice xbA xbN xbC, .slice xqA xqN xqC, .int .i64 (xfin)]),
   .makes (fun v w' => OwnI w' w2.heap.size v lx),
   .is (Value.agg #[.int .i64 (yr0), .int .i64 (yr1), .int .i64 (yr2), .int .i64 (yr3), .slice ymA ymN ymC, .slice ysA ysN ysC, .int .i64 (ypc), .slice ybA ybN ybC, .slice yqA yqN yqC, .int .i64 (yfin)]),
   .makes (fun v w' => OwnI w' w2.heap.size v ly),
   .draws (.bool (decide (lx = ly))),
   .is (Value.bool (decide (lx = ly)))])
  (fin := []) (cs := []) (by kernel_rfl) rfl (by kernel_rfl) (by kernel_rfl)
  ⟨trivial, (fun _ _ _ h hb => OwnI.past h hb), trivial, (fun _ _ _ h hb => OwnI.past h hb), trivial, trivial, trivial⟩ (fun _ _ _ _ => trivial) (by simp) (by simp) trivial
  ⟨?_, ?_, ?_, ?_, ?_, ?_, trivial⟩ ?_
 ·intro vals w1 hB _ hd
  clear hd
  refine one_value (v := Value.agg #[.int .i64 (xr0), .int .i64 (xr1), .int .i64 (xr2), .int .i64 (xr3), .slice xmA xmN xmC, .slice xsA xsN xsC, .int .i64 (xpc), .slice xbA xbN xbC, .slice xqA xqN xqC, .int .i64 (xfin)]) rfl ?_ (post_is rfl)
  exact exec_load_row rfl (b := w.heap.size) (off := 0) (by kernel_rfl) [.int .i64 (xr0), .int .i64 (xr1), .int .i64 (xr2), .int .i64 (xr3), .slice xmA xmN xmC, .slice xsA xsN xsC, .int .i64 (xpc), .slice xbA xbN xbC, .slice xqA xqN xqC, .int .i64 (xfin)] (X2.out w1 hB) Try.underlying41 rfl (by kernel_rfl)
 ·intro vals w1 hB _ hd
  clear hd
  refine one_calls (f := 48) (args := #[.agg #[.int .i64 (xr0), .int .i64 (xr1), .int .i64 (xr2), .int .i64 (xr3), .slice xmA xmN xmC, .slice xsA xsN xsC, .int .i64 (xpc), .slice xbA xbN xbC, .slice xqA xqN xqC, .int .i64 (xfin)]]) (w1 := w1) rfl (by kernel_rfl) ?_
  refine (HX.out w1 hB).mono ?_
  rintro e1 w3 ⟨v3, rfl, ho, hb⟩
  exact ⟨_, rfl, post_makes rfl (OwnI.lower ho hB.size) hb⟩
 ·intro vals w1 hB _ hd
  clear hd
  refine one_value (v := Value.agg #[.int .i64 (yr0), .int .i64 (yr1), .int .i64 (yr2), .int .i64 (yr3), .slice ymA ymN ymC, .slice ysA ysN ysC, .int .i64 (ypc), .slice ybA ybN ybC, .slice yqA yqN yqC, .int .i64 (yfin)]) rfl ?_ (post_is rfl)
  exact exec_load_row rfl (b := w.heap.size + 1) (off := 0) (by kernel_rfl) [.int .i64 (yr0), .int .i64 (yr1), .int .i64 (yr2), .int .i64 (yr3), .slice ymA ymN ymC, .slice ysA ysN ysC, .int .i64 (ypc), .slice ybA ybN ybC, .slice yqA yqN yqC, .int .i64 (yfin)] (X3.out w1 hB) Try.underlying41 rfl (by kernel_rfl)
 ·intro vals w1 hB _ hd
  clear hd
  refine one_calls (f := 48) (args := #[.agg #[.int .i64 (yr0), .int .i64 (yr1), .int .i64 (yr2), .int .i64 (yr3), .slice ymA ymN ymC, .slice ysA ysN ysC, .int .i64 (ypc), .slice ybA ybN ybC, .slice yqA yqN yqC, .int .i64 (yfin)]]) (w1 := w1) rfl (by kernel_rfl) ?_
  refine (HY.out w1 hB).mono ?_
  rintro e1 w3 ⟨v3, rfl, ho, hb⟩
  exact ⟨_, rfl, post_makes rfl (OwnI.lower ho hB.size) hb⟩
 ·intro vals w1 hB _ hd
  have da : OwnI w1 w2.heap.size (vals 1) lx := hd 1 (by kernel_rfl)
  have db : OwnI w1 w2.heap.size (vals 3) ly := hd 3 (by kernel_rfl)
  clear hd
  obtain ⟨A1, c1, e1, _, r1⟩ := OwnI.shape da
  obtain ⟨A2, c2, e2, _, r2⟩ := OwnI.shape db
  refine one_calls (f := 20) (args := #[vals 1, vals 3]) (w1 := w1) rfl (by kernel_rfl) ?_
  rw [e1, e2]
  refine (same_ints A1 A2 c1 c2 lx ly w1 r1 r2 (by omega)).mono ?_
  rintro e3 w3 ⟨rfl, hb⟩
  exact ⟨_, rfl, post_draws rfl hb⟩
 ·intro vals w1 hB _ hd
  clear hd
  refine one_value (v := Value.bool (decide (lx = ly))) rfl ?_ (post_is rfl)
  kernel_rfl
 intro vals w9 b9 _ hr
 clear hr
 simp only [fillT, Tell.is, Tell.draws, Tell.makes, Act.put, List.setIfInBounds_toArray, List.set_cons_zero, List.set_cons_succ]
 go_wp2_with fail
 go_ret
 exact ⟨rfl, W2.out.trans (b9.mono W2.out.size)⟩
end Go.Proofs.Ytchldbkjapnlcaa
end
