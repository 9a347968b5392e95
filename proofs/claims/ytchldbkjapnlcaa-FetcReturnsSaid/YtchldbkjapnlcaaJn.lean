/- arch.Still, conf.Still: a machine of its own memory. conf.Still: the region. conf.Still: a machine of its own memory. What fetching and committing answer. -/
import Derived.Test.YtchldbkjapnlcaaJRet
import Derived.Test.YtchldbkjapnlcaaJc
set_option linter.unusedVariables false
set_option linter.unusedSimpArgs false
section
namespace Go.Proofs.Ytchldbkjapnlcaa
open Go.RowKit

noncomputable def regA (id : Nat) : Code := (Try.f85.body.bind (findRegion id)).getD .skip
theorem stt_set0 {w : World} {g : Nat} {t : TypeId} (old e : Stt) (h : w.heap[g]? = some (.cells old.cs.toArray t (0, 0))) :
  (((((((w.setCell ⟨g, 0, none⟩ (.int .i64 e.r0)).setCell ⟨g, 1, none⟩ (.int .i64 e.r1)).setCell ⟨g, 2, none⟩ (.int .i64 e.r2)).setCell ⟨g, 3, none⟩ (.int .i64 e.r3)).setCell ⟨g, 4, none⟩ (.slice e.mem.A e.mem.n e.mem.c)).setCell ⟨g, 5, none⟩ (.slice e.stack.A e.stack.n e.stack.c)).setCell ⟨g, 6, none⟩ (.int .i64 e.pc)).heap[g]? = some (.cells e.cs.toArray t (0, 0)) := by
 rw [heap_setCell_same _ g 6 _ t _ (heap_setCell_same _ g 5 _ t _ (heap_setCell_same _ g 4 _ t _ (heap_setCell_same _ g 3 _ t _ (heap_setCell_same _ g 2 _ t _ (heap_setCell_same _ g 1 _ t _ (heap_setCell_same _ g 0 _ t _ h))))))]
 rfl
theorem below_of_grown {w0 w : World} {S : Nat} (h : w0.grownBy w (some S)) (hS : S ≤ w0.heap.size) : Below S w0 w := ⟨h.os, h.tape, h.output, h.size, fun i hi => h.block i (by omega) (by intro e; injection e with e; omega)⟩
theorem reads_below {w0 w : World} {S N0 size n : Nat} {A : Option Addr} {xs : List Value} (h : Reads w0 S size A n xs) (hb : Below S w0 w) (hN : w0.heap.size = N0) (hS : S < N0) : Reads w w.heap.size size A n xs :=
 (h.below hb).more (by have := hb.size; omega)
def stlCs (c : Stt) (done : Nat → Bool) (vals : Nat → Value) : List Value := [.int .i64 c.r0, .int .i64 c.r1, .int .i64 c.r2, .int .i64 c.r3, (if done 7 = true then vals 2 else .slice c.mem.A c.mem.n c.mem.c), (if done 9 = true then vals 5 else .slice c.stack.A c.stack.n c.stack.c), .int .i64 c.pc]
/-- A slice of numbers that lies below S. -/
structure RdAt (w : World) (S : Nat) (s : Sl) (l : List Int) : Prop where
 n : s.n = l.length
 r : Reads w S 1 s.A l.length (intCs l)
/-- What holds while arch.Still's region goes on. -/
structure AZ (w0 : World) (S N0 : Nat) (c : Stt) (m : State) (done : Nat → Bool) (vals : Nat → Value) (w : World) : Prop where
 s : N0 ≤ w.heap.size
 g : w0.grownBy w (some S)
 a : done 2 = true → OwnI w N0 (vals 2) m.mem
 s5 : done 5 = true → OwnI w N0 (vals 5) m.stack
 ap : done 2 = true → done 5 = true → ∀ k, (vals 2).ownBlock = some k → (vals 5).ownBlock ≠ some k
 x : w.heap[S]? = some (.cells (stlCs c done vals).toArray 36 (0, 0))
section
variable {w0 w : World} {S N0 : Nat} {c : Stt} {m : State} {done : Nat → Bool} {vals : Nat → Value}
theorem AZ.start (h : w0.heap[S]? = some (.cells c.cs.toArray 36 (0, 0))) (hN : w0.heap.size = N0) : AZ w0 S N0 c m (fun _ => false) (fun _ => undef) w0.drew := by
 refine ⟨by show N0 ≤ w0.heap.size; omega, grown_below (Below.refl _ _).drew _, fun h => (by cases h), fun h => (by cases h), fun h => (by cases h), ?_⟩
 have h2 : w0.drew.heap[S]? = some (.cells c.cs.toArray 36 (0, 0)) := h
 simpa [stlCs, Stt.cs] using h2
theorem AZ.other {i : Nat} {v : Value} {w' : World} (h : AZ w0 S N0 c m done vals w) (h2 : ¬ 2 = i) (h5 : ¬ 5 = i) (h7 : ¬ 7 = i) (h9 : ¬ 9 = i) (hb : Below w.heap.size w w') (hS : S < N0) :
  AZ w0 S N0 c m (fun j => done j || j == i) (fun j => if j = i then v else vals j) w' := by
 have e : ∀ k, ¬ k = i → (done k || k == i) = done k := fun k hk => by rw [show (k == i) = false by simpa using hk, Bool.or_false]
 have hs : N0 ≤ w.heap.size := h.s
 refine ⟨Nat.le_trans hs hb.size, h.g.trans (grown_below hb _), fun hd => ?_, fun hd => ?_, fun g2 g5 => ?_, ?_⟩
 ·simp only [e 2 h2] at hd
  simp only [if_neg h2]
  exact (h.a hd).past hb
 ·simp only [e 5 h5] at hd
  simp only [if_neg h5]
  exact (h.s5 hd).past hb
 ·simp only [e 2 h2] at g2
  simp only [e 5 h5] at g5
  simp only [if_neg h2, if_neg h5]
  exact h.ap g2 g5
 ·have := heap_keep h.x hb
  simp only [stlCs, e 7 h7, e 9 h9, if_neg h2, if_neg h5] at this ⊢
  exact this
theorem AZ.sl2 (h : AZ w0 S N0 c m done vals w) (hd : done 2 = true) : ∃ s : Sl, vals 2 = .slice s.A s.n s.c ∧ OwnI w N0 (.slice s.A s.n s.c) m.mem := by
 have ho := h.a hd
 obtain ⟨s, e, ho'⟩ := ho.sl
 exact ⟨s, e, ho'⟩
theorem AZ.mk2 {v : Value} {w' : World} (h : AZ w0 S N0 c m done vals w) (hi : done 2 = false) (ho : OwnI w' w.heap.size v m.mem) (hb : Below w.heap.size w w') (hS : S < N0) (hst : done 7 = false) :
  AZ w0 S N0 c m (fun j => done j || j == 2) (fun j => if j = 2 then v else vals j) w' := by
 have hs : N0 ≤ w.heap.size := h.s
 refine ⟨hb.size |> Nat.le_trans hs, h.g.trans (grown_below hb _), fun hd => ?_, fun hd => ?_, fun h2 h5 => ?_, ?_⟩
 ·exact ho.lower hs
 ·exact (h.s5 (by simpa using hd)).past hb
 ·have hlo := fun k hk => (World.ownsRow.lt ho k hk).1
  have hot := fun k hk => (World.ownsRow.lt (h.s5 (by simpa using h5)) k hk).2
  show ∀ k, (if 2 = 2 then v else vals 2).ownBlock = some k → (if 5 = 2 then v else vals 5).ownBlock ≠ some k
  simp only [if_true, show ¬ (5 = 2) by decide, if_false]
  intro k hk hk'
  have := hlo k hk
  have := hot k hk'
  omega
 ·have := heap_keep h.x hb
  simp only [stlCs] at this ⊢
  simp only [hst, Bool.false_or, show (7 == 2) = false from rfl, show (9 == 2) = false from rfl, Bool.or_false, show ¬ ((5 : Nat) = 2) by decide, if_false, Bool.false_eq_true] at this ⊢
  exact this
theorem AZ.st7 (h : AZ w0 S N0 c m done vals w) (hj : done 2 = true) (hi : done 7 = false) (hS : S < N0) :
  AZ w0 S N0 c m (fun j => done j || j == 7) (fun j => if j = 7 then undef else vals j) (w.setCell ⟨S, 4, none⟩ (vals 2)) := by
 refine ⟨by simpa [World.setCell] using h.s, h.g.trans (grown_setCell w ⟨S, 4, none⟩ (vals 2)), fun hd => ?_, fun hd => ?_, fun h2 h5 => ?_, ?_⟩
 ·exact OwnI.far (h.a (by simpa using hd)) (by show S < N0; omega) _
 ·exact OwnI.far (h.s5 (by simpa using hd)) (by show S < N0; omega) _
 ·exact h.ap (by simpa using h2) (by simpa using h5)
 ·have := heap_setCell_same w S 4 _ _ (vals 2) h.x
  simp only [stlCs] at this ⊢
  rw [this]
  simp [hi]
theorem AZ.sl5 (h : AZ w0 S N0 c m done vals w) (hd : done 5 = true) : ∃ s : Sl, vals 5 = .slice s.A s.n s.c ∧ OwnI w N0 (.slice s.A s.n s.c) m.stack := by
 have ho := h.s5 hd
 obtain ⟨s, e, ho'⟩ := ho.sl
 exact ⟨s, e, ho'⟩
theorem AZ.mk5 {v : Value} {w' : World} (h : AZ w0 S N0 c m done vals w) (hi : done 5 = false) (ho : OwnI w' w.heap.size v m.stack) (hb : Below w.heap.size w w') (hS : S < N0) (hst : done 9 = false) :
  AZ w0 S N0 c m (fun j => done j || j == 5) (fun j => if j = 5 then v else vals j) w' := by
 have hs : N0 ≤ w.heap.size := h.s
 refine ⟨hb.size |> Nat.le_trans hs, h.g.trans (grown_below hb _), fun hd => ?_, fun hd => ?_, fun h2 h5 => ?_, ?_⟩
 ·exact (h.a (by simpa using hd)).past hb
 ·exact ho.lower hs
 ·have hlo := fun k hk => (World.ownsRow.lt ho k hk).1
  have hot := fun k hk => (World.ownsRow.lt (h.a (by simpa using h2)) k hk).2
  show ∀ k, (if 2 = 5 then v else vals 2).ownBlock = some k → (if 5 = 5 then v else vals 5).ownBlock ≠ some k
  simp only [if_true, show ¬ (2 = 5) by decide, if_false]
  intro k hk hk'
  have := hot k hk
  have := hlo k hk'
  omega
 ·have := heap_keep h.x hb
  simp only [stlCs] at this ⊢
  simp only [hst, Bool.false_or, show (7 == 5) = false from rfl, show (9 == 5) = false from rfl, Bool.or_false, show ¬ ((2 : Nat) = 5) by decide, if_false, Bool.false_eq_true] at this ⊢
  exact this
theorem AZ.st9 (h : AZ w0 S N0 c m done vals w) (hj : done 5 = true) (hi : done 9 = false) (hS : S < N0) :
  AZ w0 S N0 c m (fun j => done j || j == 9) (fun j => if j = 9 then undef else vals j) (w.setCell ⟨S, 5, none⟩ (vals 5)) := by
 refine ⟨by simpa [World.setCell] using h.s, h.g.trans (grown_setCell w ⟨S, 5, none⟩ (vals 5)), fun hd => ?_, fun hd => ?_, fun h2 h5 => ?_, ?_⟩
 ·exact OwnI.far (h.a (by simpa using hd)) (by show S < N0; omega) _
 ·exact OwnI.far (h.s5 (by simpa using hd)) (by show S < N0; omega) _
 ·exact h.ap (by simpa using h2) (by simpa using h5)
 ·have := heap_setCell_same w S 5 _ _ (vals 5) h.x
  simp only [stlCs] at this ⊢
  rw [this]
  simp [hi]
end
set_option maxRecDepth 100000 in
set_option maxHeartbeats 8000000 in
theorem still_region {z0 z2 z3 z4 z5 z6 z7 z8 z9 z10 z11 : Value} (w0 : World) (S N0 : Nat) (c : Stt) (m : State) (X : Kept (w0.heap[S]? = some (.cells c.cs.toArray 36 (0, 0)))) (Hmem : RdAt w0 S c.mem m.mem) (Hstack : RdAt w0 S c.stack m.stack)
  (hml : m.mem.length ≤ 1000) (hsl : m.stack.length ≤ 1000) (hN : w0.heap.size = N0) (hS : S < N0) (Q : Exit → Act → World → Prop)
  (hQ : ∀ (u3 u4 u5 u6 u7 u8 u9 u10 : Value) (w' : World) (s2 s5 : Sl), OwnI w' N0 (.slice s2.A s2.n s2.c) m.mem → OwnI w' N0 (.slice s5.A s5.n s5.c) m.stack → (∀ k, (Value.slice s2.A s2.n s2.c).ownBlock = some k → (Value.slice s5.A s5.n s5.c).ownBlock ≠ some k) →
   w'.heap[S]? = some (.cells (Stt.cs { c with mem := s2, stack := s5 }).toArray 36 (0, 0)) → w0.grownBy w' (some S) → Q .normal ⟨#[z0, .pointer (some ⟨S, 0, none⟩), z2, u3, u4, u5, u6, u7, u8, u9, u10, z11], []⟩ w') :
  Code.wp Try.prog (regA 1) Q ⟨#[z0, .pointer (some ⟨S, 0, none⟩), z2, z3, z4, z5, z6, z7, z8, z9, z10, z11], []⟩ w0 := by
 conv => arg 2; whnf
 refine region_tellz (fun done vals w => AZ w0 S N0 c m done vals w) (S) (G := fun _ => True) (ts := [
   .is (Value.pointer (some ⟨S, 4, none⟩)),
   .is (.slice c.mem.A c.mem.n c.mem.c),
   .turns (fun v _ => True) (fun _ _ => True),
   .is (Value.pointer (some ⟨S, 5, none⟩)),
   .is (.slice c.stack.A c.stack.n c.stack.c),
   .turns (fun v _ => True) (fun _ _ => True),
   .is (Value.pointer (some ⟨S, 4, none⟩)),
   .sets (fun _ _ => True),
   .is (Value.pointer (some ⟨S, 5, none⟩)),
   .sets (fun _ _ => True)])
  (fin := []) (cs := [(2, 5), (2, 7), (2, 9), (5, 2), (5, 7), (5, 9), (7, 2), (7, 5), (7, 9), (9, 2), (9, 5), (9, 7)]) ?z0 ?zg (by kernel_rfl) rfl (by kernel_rfl) (by kernel_rfl)
  ⟨trivial, trivial, grows_pure _, trivial, trivial, grows_pure _, trivial, (fun _ _ _ _ _ => trivial), trivial, (fun _ _ _ _ _ => trivial), trivial⟩ (fun _ _ _ _ => trivial) ?cs (by omega) trivial
  ⟨?_, ?_, ?_, ?_, ?_, ?_, ?_, ?_, ?_, ?_, trivial⟩ ?_
 case z0 =>
  show _
  exact AZ.start X.out hN
 case zg =>
  intro i done vals w1 w2 v hti hni hZ hb
  have hz := hZ
  ·skip
   have hz : AZ w0 S N0 c m done vals w1 := hz
   have h2 : ¬ 2 = i := by rintro rfl; cases hti
   have h5 : ¬ 5 = i := by rintro rfl; cases hti
   have h7 : ¬ 7 = i := by rintro rfl; cases hti
   have h9 : ¬ 9 = i := by rintro rfl; cases hti
   exact hz.other h2 h5 h7 h9 hb hS
 case cs =>
  intro p hp v w1 w2 hG hR hE
  simp only [List.mem_cons, List.not_mem_nil, or_false] at hp
  rcases hp with rfl | rfl | rfl | rfl | rfl | rfl | rfl | rfl | rfl | rfl | rfl | rfl
  ·exact hR
  ·exact hR
  ·exact hR
  ·exact hR
  ·exact hR
  ·exact hR
  ·exact hR
  ·exact hR
  ·exact hR
  ·exact hR
  ·exact hR
  ·exact hR
 ·intro done vals w1 hB _ hZ hni hcl hdn hd
  clear hd
  refine one_value (v := Value.pointer (some ⟨S, 4, none⟩)) rfl ?_ ⟨post_is rfl, noturn rfl⟩
  kernel_rfl
 ·intro done vals w1 hB _ hZ hni hcl hdn hd
  clear hd
  have hz : AZ w0 S N0 c m done vals w1 := hZ
  have h9 := hcl 7 _ rfl (by kernel_rfl)
  refine one_value (v := .slice c.mem.A c.mem.n c.mem.c) rfl ?_ ⟨post_is rfl, noturn rfl⟩
  exact exec_cell rfl (by kernel_rfl) (CellsAt.of_block hz.x 4 _ (by simp [stlCs, h9])) Try.underlying22 rfl
 ·intro done vals w1 hB _ hZ hni hcl hdn hd
  clear hd
  have hz : AZ w0 S N0 c m done vals w1 := hZ
  refine one_calls (f := 54) (args := #[.slice c.mem.A c.mem.n c.mem.c]) (w1 := w1) rfl (by kernel_rfl) ?_
  refine (clone_int_at c.mem.A c.mem.n c.mem.c m.mem w1 Hmem.n.symm (reads_below Hmem.r (below_of_grown hz.g (by omega)) hN hS) (by have := Hmem.n; omega)).mono ?_
  rintro e1 w2 ⟨v2, rfl, ho, hb2⟩
  exact ⟨v2, rfl, post_turns rfl trivial (hB.trans (hb2.mono (by have := hB.size; omega))) trivial hb2.size trivial, fun _ => hz.mk2 hni ho hb2 hS (hcl 7 _ rfl (by kernel_rfl))⟩
 ·intro done vals w1 hB _ hZ hni hcl hdn hd
  clear hd
  refine one_value (v := Value.pointer (some ⟨S, 5, none⟩)) rfl ?_ ⟨post_is rfl, noturn rfl⟩
  kernel_rfl
 ·intro done vals w1 hB _ hZ hni hcl hdn hd
  clear hd
  have hz : AZ w0 S N0 c m done vals w1 := hZ
  have h9 := hcl 9 _ rfl (by kernel_rfl)
  refine one_value (v := .slice c.stack.A c.stack.n c.stack.c) rfl ?_ ⟨post_is rfl, noturn rfl⟩
  exact exec_cell rfl (by kernel_rfl) (CellsAt.of_block hz.x 5 _ (by simp [stlCs, h9])) Try.underlying22 rfl
 ·intro done vals w1 hB _ hZ hni hcl hdn hd
  clear hd
  have hz : AZ w0 S N0 c m done vals w1 := hZ
  refine one_calls (f := 54) (args := #[.slice c.stack.A c.stack.n c.stack.c]) (w1 := w1) rfl (by kernel_rfl) ?_
  refine (clone_int_at c.stack.A c.stack.n c.stack.c m.stack w1 Hstack.n.symm (reads_below Hstack.r (below_of_grown hz.g (by omega)) hN hS) (by have := Hstack.n; omega)).mono ?_
  rintro e1 w2 ⟨v2, rfl, ho, hb2⟩
  exact ⟨v2, rfl, post_turns rfl trivial (hB.trans (hb2.mono (by have := hB.size; omega))) trivial hb2.size trivial, fun _ => hz.mk5 hni ho hb2 hS (hcl 9 _ rfl (by kernel_rfl))⟩
 ·intro done vals w1 hB _ hZ hni hcl hdn hd
  clear hd
  refine one_value (v := Value.pointer (some ⟨S, 4, none⟩)) rfl ?_ ⟨post_is rfl, noturn rfl⟩
  kernel_rfl
 ·intro done vals w1 hB _ hZ hni hcl hdn hd
  clear hd
  have hz : AZ w0 S N0 c m done vals w1 := hZ
  have hj := hdn 2 (by kernel_rfl)
  obtain ⟨s, es, ho⟩ := hz.sl2 hj
  have hst := grown_setCell w1 ⟨S, 4, none⟩ (vals 2)
  refine one_skips (w' := w1.setCell ⟨S, 4, none⟩ (vals 2)) rfl ?_ ⟨post_sets rfl (hB.setCell (Nat.le_refl _) _) trivial hst.size trivial, fun _ => hz.st7 hj hni hS⟩
  rw [vals_at es]
  exact exec_store rfl (by kernel_rfl) (by kernel_rfl) (run_store_sl1 (CellsAt.of_block hz.x 4 _ rfl) (frozen_of_row w1 S 4 _ _ hz.x) (by kernel_rfl))
 ·intro done vals w1 hB _ hZ hni hcl hdn hd
  clear hd
  refine one_value (v := Value.pointer (some ⟨S, 5, none⟩)) rfl ?_ ⟨post_is rfl, noturn rfl⟩
  kernel_rfl
 ·intro done vals w1 hB _ hZ hni hcl hdn hd
  clear hd
  have hz : AZ w0 S N0 c m done vals w1 := hZ
  have hj := hdn 5 (by kernel_rfl)
  obtain ⟨s, es, ho⟩ := hz.sl5 hj
  have hst := grown_setCell w1 ⟨S, 5, none⟩ (vals 5)
  refine one_skips (w' := w1.setCell ⟨S, 5, none⟩ (vals 5)) rfl ?_ ⟨post_sets rfl (hB.setCell (Nat.le_refl _) _) trivial hst.size trivial, fun _ => hz.st9 hj hni hS⟩
  rw [vals_at es]
  exact exec_store rfl (by kernel_rfl) (by kernel_rfl) (run_store_sl1 (CellsAt.of_block hz.x 5 _ rfl) (frozen_of_row w1 S 5 _ _ hz.x) (by kernel_rfl))
 intro done vals w9 b9 _ hall hZ hr
 have hz : AZ w0 S N0 c m done vals w9 := hZ
 obtain ⟨s2, e2, o2⟩ := hz.sl2 (hall 2 (by simp))
 obtain ⟨s5, e5, o5⟩ := hz.sl5 (hall 5 (by simp))
 have hap := hz.ap (hall 2 (by simp)) (hall 5 (by simp))
 have hx := hz.x
 simp only [stlCs, hall 7 (by simp), hall 9 (by simp), if_true] at hx
 clear hr
 simp only [fillT, Tell.is, Tell.turns, Act.put, List.setIfInBounds_toArray, List.set_cons_zero, List.set_cons_succ]
 rw [e2, e5] at hap hx
 exact hQ _ _ _ _ _ _ _ _ w9 s2 s5 o2 o5 hap hx hz.g
theorem RdIs.at_ {w : World} {s : Sl} {l : List Int} {S : Nat} (h : RdIs w s l) (hS : w.heap.size = S) {w' : World} (hb : Below S w w') : RdAt w' S s l := by
 subst hS
 exact ⟨h.n, Reads.below h.r hb⟩
theorem dj_of_own {A A' : Option Addr} {n n' c c' : Nat} (h : ∀ k, (Value.slice A n c).ownBlock = some k → (Value.slice A' n' c').ownBlock ≠ some k) : Dj (.slice A n c) (.slice A' n' c') := by
 intro k hk hk'
 exact h k (by simpa [blocksOf] using hk) (by simpa [blocksOf] using hk')
theorem own_ne {w : World} {B g : Nat} {e : TypeId} {size : Nat} {v : Value} {n : Nat} {xs : List Value} (h : w.ownsRow B e size v n xs) (hg : g < B) : v.ownBlock = none ∨ v.ownBlock ≠ some g := by
 cases hv : v.ownBlock with
 | none => exact .inl rfl
 | some k => exact .inr (fun e => by injection e with e; have := (World.ownsRow.lt h k hv).1; omega)
set_option maxRecDepth 100000 in
set_option maxHeartbeats 2000000 in
theorem astill_any (c : Stt) (m : State) (w : World) (hc : StIs w c m) (hml : m.mem.length ≤ 1000) (hsl : m.stack.length ≤ 1000) :
  Calls Try.prog 85 #[c.v] w fun en w' => ∃ c' : Stt, en = .returned c'.v ∧ StOwn w' w.heap.size c' m ∧ Below w.heap.size w w' := by
 have HC := Kept.mk hc
 obtain ⟨r0, r1, r2, r3, ⟨mA, mN, mC⟩, ⟨sA, sN, sC⟩, pc⟩ := c
 clear hc
 go_enter Try.func85, Try.ntmps85
 go_wp2_with fail
 have bb := (below_alloc_self w (.cells #[.int .i64 r0, .int .i64 r1, .int .i64 r2, .int .i64 r3, .slice mA mN mC, .slice sA sN sC, .int .i64 pc] 36)).alloc (by simp) (.cells #[.int .i64 0, .int .i64 0, .int .i64 0, .int .i64 0, .slice none 0 0, .slice none 0 0, .int .i64 0] 36)
 have X1 := Kept.mk ((heap_alloc_old (w.alloc (.cells #[.int .i64 r0, .int .i64 r1, .int .i64 r2, .int .i64 r3, .slice mA mN mC, .slice sA sN sC, .int .i64 pc] 36)) (.cells #[.int .i64 0, .int .i64 0, .int .i64 0, .int .i64 0, .slice none 0 0, .slice none 0 0, .int .i64 0] 36) (by simp)).trans (heap_alloc_new w (.cells #[.int .i64 r0, .int .i64 r1, .int .i64 r2, .int .i64 r3, .slice mA mN mC, .slice sA sN sC, .int .i64 pc] 36)))
 have X2 := Kept.mk (heap_alloc2_new w (.cells #[.int .i64 r0, .int .i64 r1, .int .i64 r2, .int .i64 r3, .slice mA mN mC, .slice sA sN sC, .int .i64 pc] 36) (.cells #[.int .i64 0, .int .i64 0, .int .i64 0, .int .i64 0, .slice none 0 0, .slice none 0 0, .int .i64 0] 36))
 have SZ : ((w.alloc (.cells #[.int .i64 r0, .int .i64 r1, .int .i64 r2, .int .i64 r3, .slice mA mN mC, .slice sA sN sC, .int .i64 pc] 36)).alloc (.cells #[.int .i64 0, .int .i64 0, .int .i64 0, .int .i64 0, .slice none 0 0, .slice none 0 0, .int .i64 0] 36)).heap.size = w.heap.size + 2 := by simp
 have W2 := Kept.mk bb
 have RM := HC.out.mem.at_ rfl bb
 have RS := HC.out.stack.at_ rfl bb
 clear bb
 generalize (w.alloc (.cells #[.int .i64 r0, .int .i64 r1, .int .i64 r2, .int .i64 r3, .slice mA mN mC, .slice sA sN sC, .int .i64 pc] 36)).alloc (.cells #[.int .i64 0, .int .i64 0, .int .i64 0, .int .i64 0, .slice none 0 0, .slice none 0 0, .int .i64 0] 36) = w2 at *
 refine still_region w2 w.heap.size (w.heap.size + 2) ⟨r0, r1, r2, r3, ⟨mA, mN, mC⟩, ⟨sA, sN, sC⟩, pc⟩ m X1 RM RS hml hsl SZ (by omega) _ ?_
 intros
 rename_i w9 a2 a5 o2 o5 hap hx9 hg9
 obtain ⟨eA, eN, eC⟩ := a2
 obtain ⟨fA, fN, fC⟩ := a5
 have O2 := Kept.mk o2
 have O5 := Kept.mk o5
 have AP := Kept.mk hap
 have K2 := Kept.mk ((hg9.block (w.heap.size + 1) (by omega) (by intro h; injection h with h; omega)).trans X2.out)
 have W9 := Kept.mk (W2.out.trans (below_of_grown hg9 (by omega)))
 have Y1 := fun j => cell_of_row w9 w.heap.size j _ _ _ hx9
 have Y2 := fun j => cell_of_row w9 (w.heap.size + 1) j _ _ _ K2.out
 have F2 := fun j => frozen_of_row w9 (w.heap.size + 1) j _ _ K2.out
 simp only [Stt.cs] at Y1
 clear o2 o5 hap hx9 hg9 X1 X2 W2 RM RS
 go_wp2_with fail
 have x4 := stt_set0 (w := w9) (g := w.heap.size + 1) ⟨0, 0, 0, 0, Sl.none, Sl.none, 0⟩ ⟨r0, r1, r2, r3, ⟨eA, eN, eC⟩, ⟨fA, fN, fC⟩, pc⟩ K2.out
 have hg := grown7 w9 (w.heap.size + 1) ⟨r0, r1, r2, r3, ⟨eA, eN, eC⟩, ⟨fA, fN, fC⟩, pc⟩
 have wb := below7 (g := w.heap.size + 1) ⟨r0, r1, r2, r3, ⟨eA, eN, eC⟩, ⟨fA, fN, fC⟩, pc⟩ W9.out (by omega)
 have om := World.ownsRow.kept O2.out hg (own_ne O2.out (show w.heap.size + 1 < w.heap.size + 2 by omega))
 have os := World.ownsRow.kept O5.out hg (own_ne O5.out (show w.heap.size + 1 < w.heap.size + 2 by omega))
 dsimp only at x4 wb om os
 refine at_ret _ [Stt.v ⟨r0, r1, r2, r3, ⟨eA, eN, eC⟩, ⟨fA, fN, fC⟩, pc⟩] Try.results85 (.cons (.cell (cs := Stt.cs ⟨r0, r1, r2, r3, ⟨eA, eN, eC⟩, ⟨fA, fN, fC⟩, pc⟩) (b := w.heap.size + 1) (off := 0) rfl rfl (cells_of_block x4) Try.underlying36 rfl (by kernel_rfl)) .nil) rfl ?_
 exact ⟨⟨r0, r1, r2, r3, ⟨eA, eN, eC⟩, ⟨fA, fN, fC⟩, pc⟩, rfl, ⟨HC.out.r0, HC.out.r1, HC.out.r2, HC.out.r3, own_lower om (by omega), own_lower os (by omega), HC.out.pc, dj_of_own AP.out⟩, wb⟩

end Go.Proofs.Ytchldbkjapnlcaa
end
section
namespace Go.Proofs.Ytchldbkjapnlcaa
open Go.RowKit

noncomputable def regC (id : Nat) : Code := (Try.f63.body.bind (findRegion id)).getD .skip
def Fr (B : Nat) (v : Value) (w : World) : Prop := ∀ k ∈ blocksOf v, B ≤ k ∧ k < w.heap.size
theorem OwnI.fr {w : World} {B : Nat} {v : Value} {l : List Int} (h : OwnI w B v l) : Fr B v w := by
 obtain ⟨s, rfl, ho⟩ := h.sl
 exact fun k hk => World.ownsRow.lt ho k (by simpa [blocksOf] using hk)
theorem OwnE.fr {w : World} {B : Nat} {v : Value} {l : List Ent} (h : OwnE w B v l) : Fr B v w := by
 obtain ⟨s, rfl, ho⟩ := h.sl
 exact fun k hk => World.ownsRow.lt ho k (by simpa [blocksOf] using hk)
theorem StOwn.fr {w : World} {B : Nat} {c : Stt} {m : State} (h : StOwn w B c m) : Fr B c.v w := fun k hk => by
 rcases (blocks_st c k).1 hk with hk | hk
 ·exact World.ownsRow.lt h.mem k (by simpa [blocksOf] using hk)
 ·exact World.ownsRow.lt h.stack k (by simpa [blocksOf] using hk)
theorem list7 (l : List Value) (h : l.length = 7) : ∃ a b c d e f g, l = [a, b, c, d, e, f, g] := by
 match l, h with
 | [a, b, c, d, e, f, g], _ => exact ⟨a, b, c, d, e, f, g, rfl⟩
def aggCells : Value → List Value
 | .agg cs => cs.toList
 | _ => []
theorem agg_st (c : Stt) : aggCells c.v = c.cs := rfl
theorem run_store_part {P : Program} {w : World} {b : Nat} {t ty : TypeId} {cs0 rest : List Value} (v : Value) (cs : List Value) (hv : v.cells = cs.toArray) (h : w.heap[b]? = some (.cells (cs0 ++ rest).toArray t (0, 0))) (hn : cs0.length = cs.length) (h1 : cs.all Value.oneCell' = true)
  (hi : (P.info? ty).map (·.size) = some cs.length) : ∃ w' : World, (storeVar ty ⟨b, 0, none⟩ v).run P w = .ok () w' ∧ w'.heap[b]? = some (.cells (cs ++ rest).toArray t (0, 0)) ∧ w.grownBy w' (some b) := by
 obtain ⟨w', new, hr, hw, hs, hj, hg⟩ := run_storeCells_box P b t cs 0 _ w h (by simp; omega) (fun u hu => List.all_eq_true.1 h1 u hu)
 refine ⟨w', ?_, ?_, hg⟩
 ·cases hq : P.info? ty with
  | none => simp [hq] at hi
  | some i =>
   have hsz : i.size = cs.length := by simpa [hq] using hi
   simp [storeVar, sizeOf, typeInfo, hq, hsz, hv, hr]
 ·rw [hw]
  congr 2
  apply Array.ext_getElem?
  intro j
  rw [hj j]
  by_cases hlt : j < cs.length
  ·rw [if_pos (by omega)]
   simp [List.getElem?_append_left hlt]
  ·rw [if_neg (by omega)]
   simp [List.getElem?_append_right (show cs.length ≤ j by omega), List.getElem?_append_right (show cs0.length ≤ j by omega), hn]
def cstCs (c : Cnf) (done : Nat → Bool) (vals : Nat → Value) : List Value := (if done 10 = true then aggCells (vals 2) else c.st.cs) ++ [(if done 12 = true then vals 5 else .slice c.buf.A c.buf.n c.buf.c), (if done 14 = true then vals 8 else .slice c.rsb.A c.rsb.n c.rsb.c), .int .i64 c.fin]
/-- What holds while conf.Still's region goes on. -/
structure CZ (w0 : World) (S N0 : Nat) (c : Cnf) (m : Conf) (done : Nat → Bool) (vals : Nat → Value) (w : World) : Prop where
 s : N0 ≤ w.heap.size
 g : w0.grownBy w (some S)
 a : done 2 = true → ∃ st : Stt, vals 2 = st.v ∧ StOwn w N0 st m.st
 e : done 5 = true → OwnE w N0 (vals 5) m.buf
 q : done 8 = true → OwnI w N0 (vals 8) m.rsb
 ae : done 2 = true → done 5 = true → Dj (vals 2) (vals 5)
 aq : done 2 = true → done 8 = true → Dj (vals 2) (vals 8)
 eq : done 5 = true → done 8 = true → Dj (vals 5) (vals 8)
 x2 : done 10 = true → done 2 = true
 x : w.heap[S]? = some (.cells (cstCs c done vals).toArray 41 (0, 0))
/-- A machine's rows below S. -/
structure StAt (w : World) (S : Nat) (c : Stt) (m : State) : Prop where
 r0 : c.r0 = m.r0
 r1 : c.r1 = m.r1
 r2 : c.r2 = m.r2
 r3 : c.r3 = m.r3
 mem : RdAt w S c.mem m.mem
 memc : c.mem.n ≤ c.mem.c
 stack : RdAt w S c.stack m.stack
 stackc : c.stack.n ≤ c.stack.c
 pc : c.pc = m.pc
theorem StAt.is {w0 w : World} {S N0 : Nat} {c : Stt} {m : State} (h : StAt w0 S c m) (hb : Below S w0 w) (hN : w0.heap.size = N0) (hS : S < N0) : StIs w c m :=
 ⟨h.r0, h.r1, h.r2, h.r3, ⟨h.mem.n, h.memc, reads_below h.mem.r hb hN hS⟩, ⟨h.stack.n, h.stackc, reads_below h.stack.r hb hN hS⟩, h.pc⟩
structure RdAtE (w : World) (S : Nat) (s : Sl) (l : List Ent) : Prop where
 n : s.n = l.length
 r : Reads w S 8 s.A l.length (entCs l)
section
variable {w0 w : World} {S N0 : Nat} {c : Cnf} {m : Conf} {done : Nat → Bool} {vals : Nat → Value}
theorem CZ.start (h : w0.heap[S]? = some (.cells c.cs.toArray 41 (0, 0))) (hN : w0.heap.size = N0) : CZ w0 S N0 c m (fun _ => false) (fun _ => undef) w0.drew := by
 refine ⟨by show N0 ≤ w0.heap.size; omega, grown_below (Below.refl _ _).drew _, fun h => (by cases h), fun h => (by cases h), fun h => (by cases h), fun h => (by cases h), fun h => (by cases h), fun h => (by cases h), fun h => (by cases h), ?_⟩
 have h2 : w0.drew.heap[S]? = some (.cells c.cs.toArray 41 (0, 0)) := h
 simpa [cstCs, Cnf.cs, Stt.cs] using h2
theorem CZ.fr2 (h : CZ w0 S N0 c m done vals w) (hd : done 2 = true) : ∀ k ∈ blocksOf (vals 2), k < w.heap.size := fun k hk => by
 obtain ⟨st, es, ho⟩ := h.a hd
 rw [es] at hk
 exact (ho.fr k hk).2
theorem CZ.fr5 (h : CZ w0 S N0 c m done vals w) (hd : done 5 = true) : ∀ k ∈ blocksOf (vals 5), k < w.heap.size := fun k hk => ((h.e hd).fr k hk).2
theorem CZ.fr8 (h : CZ w0 S N0 c m done vals w) (hd : done 8 = true) : ∀ k ∈ blocksOf (vals 8), k < w.heap.size := fun k hk => ((h.q hd).fr k hk).2
theorem CZ.len10 (h : CZ w0 S N0 c m done vals w) (hd : done 10 = true) : (aggCells (vals 2)).length = 7 := by
 obtain ⟨st, es, _⟩ := h.a (h.x2 hd)
 rw [es]
 rfl
theorem CZ.x10 (h : CZ w0 S N0 c m done vals w) (hd : done 10 = false) : w.heap[S]? = some (.cells (c.st.cs ++ [(if done 12 = true then vals 5 else .slice c.buf.A c.buf.n c.buf.c), (if done 14 = true then vals 8 else .slice c.rsb.A c.rsb.n c.rsb.c), .int .i64 c.fin]).toArray 41 (0, 0)) := by
 have := h.x
 simp only [cstCs, hd, Bool.false_eq_true, if_false] at this
 exact this
theorem CZ.stcells (h : CZ w0 S N0 c m done vals w) (hd : done 10 = false) : CellsAt w S 0 c.st.cs := fun j u hu => by
 have hj := (List.getElem?_eq_some_iff.1 hu).1
 exact CellsAt.of_block (h.x10 hd) j u (by rw [List.getElem?_append_left hj]; exact hu)
theorem CZ.tail (h : CZ w0 S N0 c m done vals w) (j : Nat) : w.cell? ⟨S, 7 + j, none⟩ = [(if done 12 = true then vals 5 else .slice c.buf.A c.buf.n c.buf.c), (if done 14 = true then vals 8 else .slice c.rsb.A c.rsb.n c.rsb.c), Value.int .i64 c.fin][j]? := by
 rw [cell_of_row w S (7 + j) _ _ _ h.x]
 unfold cstCs
 have hl : (if done 10 = true then aggCells (vals 2) else c.st.cs).length = 7 := by
  split
  ·exact h.len10 (by assumption)
  ·rfl
 rw [List.getElem?_toArray, List.getElem?_append_right (by omega), hl, Nat.add_sub_cancel_left]
theorem CZ.bufcell (h : CZ w0 S N0 c m done vals w) (hd : done 12 = false) : w.cell? ⟨S, 7, none⟩ = some (.slice c.buf.A c.buf.n c.buf.c) := by
 have := h.tail 0
 simpa [hd] using this
theorem CZ.rsbcell (h : CZ w0 S N0 c m done vals w) (hd : done 14 = false) : w.cell? ⟨S, 8, none⟩ = some (.slice c.rsb.A c.rsb.n c.rsb.c) := by
 have := h.tail 1
 simpa [hd] using this
theorem CZ.other {i : Nat} {v : Value} {w' : World} (h : CZ w0 S N0 c m done vals w) (h2 : ¬ 2 = i) (h5 : ¬ 5 = i) (h8 : ¬ 8 = i) (h10 : ¬ 10 = i) (h12 : ¬ 12 = i) (h14 : ¬ 14 = i) (hb : Below w.heap.size w w') (hS : S < N0) :
  CZ w0 S N0 c m (fun j => done j || j == i) (fun j => if j = i then v else vals j) w' := by
 have e : ∀ k, ¬ k = i → (done k || k == i) = done k := fun k hk => by rw [show (k == i) = false by simpa using hk, Bool.or_false]
 refine ⟨Nat.le_trans h.s hb.size, h.g.trans (grown_below hb _), fun hd => ?_, fun hd => ?_, fun hd => ?_, fun ga gb => ?_, fun ga gb => ?_, fun ga gb => ?_, fun hd => (by simp only [e 10 h10] at hd; simp only [e 2 h2]; exact h.x2 hd), ?_⟩
 ·simp only [e 2 h2] at hd
  simp only [if_neg h2]
  obtain ⟨st, es, ho⟩ := h.a hd
  exact ⟨st, es, ho.past hb⟩
 ·simp only [e 5 h5] at hd
  simp only [if_neg h5]
  exact (h.e hd).past hb
 ·simp only [e 8 h8] at hd
  simp only [if_neg h8]
  exact (h.q hd).past hb
 ·simp only [e 2 h2] at ga
  simp only [e 5 h5] at gb
  simp only [if_neg h2, if_neg h5]
  exact h.ae ga gb
 ·simp only [e 2 h2] at ga
  simp only [e 8 h8] at gb
  simp only [if_neg h2, if_neg h8]
  exact h.aq ga gb
 ·simp only [e 5 h5] at ga
  simp only [e 8 h8] at gb
  simp only [if_neg h5, if_neg h8]
  exact h.eq ga gb
 ·have := heap_keep h.x hb
  simp only [cstCs, e 10 h10, e 12 h12, e 14 h14, if_neg h2, if_neg h5, if_neg h8] at this ⊢
  exact this
theorem CZ.mk2 {st : Stt} {w' : World} (h : CZ w0 S N0 c m done vals w) (_ : done 2 = false) (ho : StOwn w' w.heap.size st m.st) (hb : Below w.heap.size w w') (hS : S < N0) (hst : done 10 = false) :
  CZ w0 S N0 c m (fun j => done j || j == 2) (fun j => if j = 2 then st.v else vals j) w' := by
 have hs : N0 ≤ w.heap.size := h.s
 have hfr : Fr w.heap.size st.v w' := ho.fr
 refine ⟨Nat.le_trans hs hb.size, h.g.trans (grown_below hb _), fun hd => ?_, fun hd => ?_, fun hd => ?_, fun ga gb => ?_, fun ga gb => ?_, fun ga gb => ?_, fun hd => (by have h10 : done 10 = true := (by simpa using hd); simp [h.x2 h10]), ?_⟩
 ·exact ⟨st, rfl, ho.lower hs⟩
 ·exact (h.e (by simpa using hd)).past hb
 ·exact (h.q (by simpa using hd)).past hb
 ·have := h.fr5 (by simpa using gb)
  show Dj (if 2 = 2 then st.v else vals 2) (if 5 = 2 then st.v else vals 5)
  rw [if_pos rfl, if_neg (by decide)]
  exact fun k hk hk2 => by have := hfr k hk; have := (h.fr5 (by simpa using gb)) k hk2; omega
 ·have := h.fr8 (by simpa using gb)
  show Dj (if 2 = 2 then st.v else vals 2) (if 8 = 2 then st.v else vals 8)
  rw [if_pos rfl, if_neg (by decide)]
  exact fun k hk hk2 => by have := hfr k hk; have := (h.fr8 (by simpa using gb)) k hk2; omega
 ·exact h.eq (by simpa using ga) (by simpa using gb)
 ·have := heap_keep h.x hb
  simp only [cstCs] at this ⊢
  have e : ∀ k, k ≠ 2 → (done k || k == 2) = done k := fun k hk => by rw [show (k == 2) = false by simpa using hk, Bool.or_false]
  simp only [e 10 (by decide), e 12 (by decide), e 14 (by decide), hst, Bool.false_eq_true, if_false, show ¬ ((5 : Nat) = 2) by decide, show ¬ ((8 : Nat) = 2) by decide] at this ⊢
  exact this
theorem CZ.mk5 {v : Value} {w' : World} (h : CZ w0 S N0 c m done vals w) (_ : done 5 = false) (ho : OwnE w' w.heap.size v m.buf) (hb : Below w.heap.size w w') (hS : S < N0) (hst : done 12 = false) :
  CZ w0 S N0 c m (fun j => done j || j == 5) (fun j => if j = 5 then v else vals j) w' := by
 have hs : N0 ≤ w.heap.size := h.s
 have hfr : Fr w.heap.size v w' := ho.fr
 refine ⟨Nat.le_trans hs hb.size, h.g.trans (grown_below hb _), fun hd => ?_, fun hd => ?_, fun hd => ?_, fun ga gb => ?_, fun ga gb => ?_, fun ga gb => ?_, fun hd => (by have h10 : done 10 = true := (by simpa using hd); simp [h.x2 h10]), ?_⟩
 ·obtain ⟨st, es, ho2⟩ := h.a (by simpa using hd)
  exact ⟨st, es, ho2.past hb⟩
 ·exact ho.lower hs
 ·exact (h.q (by simpa using hd)).past hb
 ·have := h.fr2 (by simpa using ga)
  show Dj (if 2 = 5 then v else vals 2) (if 5 = 5 then v else vals 5)
  rw [if_neg (by decide), if_pos rfl]
  exact fun k hk hk2 => by have := hfr k hk2; have := (h.fr2 (by simpa using ga)) k hk; omega
 ·exact h.aq (by simpa using ga) (by simpa using gb)
 ·have := h.fr8 (by simpa using gb)
  show Dj (if 5 = 5 then v else vals 5) (if 8 = 5 then v else vals 8)
  rw [if_pos rfl, if_neg (by decide)]
  exact fun k hk hk2 => by have := hfr k hk; have := (h.fr8 (by simpa using gb)) k hk2; omega
 ·have := heap_keep h.x hb
  simp only [cstCs] at this ⊢
  have e : ∀ k, k ≠ 5 → (done k || k == 5) = done k := fun k hk => by rw [show (k == 5) = false by simpa using hk, Bool.or_false]
  simp only [e 10 (by decide), e 12 (by decide), e 14 (by decide), hst, Bool.false_eq_true, if_false, show ¬ ((2 : Nat) = 5) by decide, show ¬ ((8 : Nat) = 5) by decide] at this ⊢
  exact this
theorem CZ.mk8 {v : Value} {w' : World} (h : CZ w0 S N0 c m done vals w) (_ : done 8 = false) (ho : OwnI w' w.heap.size v m.rsb) (hb : Below w.heap.size w w') (hS : S < N0) (hst : done 14 = false) :
  CZ w0 S N0 c m (fun j => done j || j == 8) (fun j => if j = 8 then v else vals j) w' := by
 have hs : N0 ≤ w.heap.size := h.s
 have hfr : Fr w.heap.size v w' := ho.fr
 refine ⟨Nat.le_trans hs hb.size, h.g.trans (grown_below hb _), fun hd => ?_, fun hd => ?_, fun hd => ?_, fun ga gb => ?_, fun ga gb => ?_, fun ga gb => ?_, fun hd => (by have h10 : done 10 = true := (by simpa using hd); simp [h.x2 h10]), ?_⟩
 ·obtain ⟨st, es, ho2⟩ := h.a (by simpa using hd)
  exact ⟨st, es, ho2.past hb⟩
 ·exact (h.e (by simpa using hd)).past hb
 ·exact ho.lower hs
 ·exact h.ae (by simpa using ga) (by simpa using gb)
 ·have := h.fr2 (by simpa using ga)
  show Dj (if 2 = 8 then v else vals 2) (if 8 = 8 then v else vals 8)
  rw [if_neg (by decide), if_pos rfl]
  exact fun k hk hk2 => by have := hfr k hk2; have := (h.fr2 (by simpa using ga)) k hk; omega
 ·have := h.fr5 (by simpa using ga)
  show Dj (if 5 = 8 then v else vals 5) (if 8 = 8 then v else vals 8)
  rw [if_neg (by decide), if_pos rfl]
  exact fun k hk hk2 => by have := hfr k hk2; have := (h.fr5 (by simpa using ga)) k hk; omega
 ·have := heap_keep h.x hb
  simp only [cstCs] at this ⊢
  have e : ∀ k, k ≠ 8 → (done k || k == 8) = done k := fun k hk => by rw [show (k == 8) = false by simpa using hk, Bool.or_false]
  simp only [e 10 (by decide), e 12 (by decide), e 14 (by decide), hst, Bool.false_eq_true, if_false, show ¬ ((2 : Nat) = 8) by decide, show ¬ ((5 : Nat) = 8) by decide] at this ⊢
  exact this
theorem CZ.st12 (h : CZ w0 S N0 c m done vals w) (_ : done 5 = true) (hi : done 12 = false) (hS : S < N0) :
  CZ w0 S N0 c m (fun j => done j || j == 12) (fun j => if j = 12 then undef else vals j) (w.setCell ⟨S, 7, none⟩ (vals 5)) := by
 refine ⟨by simpa [World.setCell] using h.s, h.g.trans (grown_setCell w ⟨S, 7, none⟩ (vals 5)), fun hd => ?_, fun hd => ?_, fun hd => ?_, fun ga gb => ?_, fun ga gb => ?_, fun ga gb => ?_, fun hd => (by have h10 : done 10 = true := (by simpa using hd); simp [h.x2 h10]), ?_⟩
 ·obtain ⟨st, es, ho2⟩ := h.a (by simpa using hd)
  exact ⟨st, es, ho2.far (by show S < N0; omega) _⟩
 ·exact OwnE.far (h.e (by simpa using hd)) (by show S < N0; omega) _
 ·exact OwnI.far (h.q (by simpa using hd)) (by show S < N0; omega) _
 ·exact h.ae (by simpa using ga) (by simpa using gb)
 ·exact h.aq (by simpa using ga) (by simpa using gb)
 ·exact h.eq (by simpa using ga) (by simpa using gb)
 ·have := heap_setCell_same w S 7 _ _ (vals 5) h.x
  rw [this]
  by_cases h10 : done 10 = true
  ·have hst := h.len10 h10
   simp only [cstCs, h10, hi, if_true, Bool.true_or, Bool.false_eq_true, if_false, show (12 == 12) = true from rfl, Bool.or_true, show (14 == 12) = false from rfl, Bool.or_false, show ¬ ((2 : Nat) = 12) by decide, show ¬ ((5 : Nat) = 12) by decide, show ¬ ((8 : Nat) = 12) by decide]
   obtain ⟨l, hl⟩ : ∃ l, aggCells (vals 2) = l := ⟨_, rfl⟩
   rw [hl] at hst ⊢
   obtain ⟨b0, b1, b2, b3, b4, b5, b6, rfl⟩ := list7 l hst
   rfl
  ·have h10 : done 10 = false := by simpa using h10
   simp only [cstCs, Stt.cs, h10, hi, Bool.false_or, if_true, Bool.false_eq_true, if_false, show (12 == 12) = true from rfl, Bool.or_true, show (14 == 12) = false from rfl, Bool.or_false, show (10 == 12) = false from rfl, show ¬ ((2 : Nat) = 12) by decide, show ¬ ((5 : Nat) = 12) by decide, show ¬ ((8 : Nat) = 12) by decide]
   rfl
theorem CZ.st14 (h : CZ w0 S N0 c m done vals w) (_ : done 8 = true) (hi : done 14 = false) (hS : S < N0) :
  CZ w0 S N0 c m (fun j => done j || j == 14) (fun j => if j = 14 then undef else vals j) (w.setCell ⟨S, 8, none⟩ (vals 8)) := by
 refine ⟨by simpa [World.setCell] using h.s, h.g.trans (grown_setCell w ⟨S, 8, none⟩ (vals 8)), fun hd => ?_, fun hd => ?_, fun hd => ?_, fun ga gb => ?_, fun ga gb => ?_, fun ga gb => ?_, fun hd => (by have h10 : done 10 = true := (by simpa using hd); simp [h.x2 h10]), ?_⟩
 ·obtain ⟨st, es, ho2⟩ := h.a (by simpa using hd)
  exact ⟨st, es, ho2.far (by show S < N0; omega) _⟩
 ·exact OwnE.far (h.e (by simpa using hd)) (by show S < N0; omega) _
 ·exact OwnI.far (h.q (by simpa using hd)) (by show S < N0; omega) _
 ·exact h.ae (by simpa using ga) (by simpa using gb)
 ·exact h.aq (by simpa using ga) (by simpa using gb)
 ·exact h.eq (by simpa using ga) (by simpa using gb)
 ·have := heap_setCell_same w S 8 _ _ (vals 8) h.x
  rw [this]
  by_cases h10 : done 10 = true
  ·have hst := h.len10 h10
   simp only [cstCs, h10, hi, if_true, Bool.true_or, Bool.false_eq_true, if_false, show (14 == 14) = true from rfl, Bool.or_true, show (12 == 14) = false from rfl, Bool.or_false, show ¬ ((2 : Nat) = 14) by decide, show ¬ ((5 : Nat) = 14) by decide, show ¬ ((8 : Nat) = 14) by decide]
   obtain ⟨l, hl⟩ : ∃ l, aggCells (vals 2) = l := ⟨_, rfl⟩
   rw [hl] at hst ⊢
   obtain ⟨b0, b1, b2, b3, b4, b5, b6, rfl⟩ := list7 l hst
   rfl
  ·have h10 : done 10 = false := by simpa using h10
   simp only [cstCs, Stt.cs, h10, hi, Bool.false_or, if_true, Bool.false_eq_true, if_false, show (14 == 14) = true from rfl, Bool.or_true, show (12 == 14) = false from rfl, Bool.or_false, show (10 == 14) = false from rfl, show ¬ ((2 : Nat) = 14) by decide, show ¬ ((5 : Nat) = 14) by decide, show ¬ ((8 : Nat) = 14) by decide]
   rfl
theorem CZ.st10 {st : Stt} {w' : World} (h : CZ w0 S N0 c m done vals w) (hj : done 2 = true) (_ : done 10 = false) (es : vals 2 = st.v) (hw : w'.heap[S]? = some (.cells (st.cs ++ [(if done 12 = true then vals 5 else .slice c.buf.A c.buf.n c.buf.c), (if done 14 = true then vals 8 else .slice c.rsb.A c.rsb.n c.rsb.c), .int .i64 c.fin]).toArray 41 (0, 0))) (hg : w.grownBy w' (some S)) (hS : S < N0) :
  CZ w0 S N0 c m (fun j => done j || j == 10) (fun j => if j = 10 then undef else vals j) w' := by
 refine ⟨Nat.le_trans h.s hg.size, h.g.trans hg, fun hd => ?_, fun hd => ?_, fun hd => ?_, fun ga gb => ?_, fun ga gb => ?_, fun ga gb => ?_, fun _ => (by simp [hj]), ?_⟩
 ·obtain ⟨st, es, ho2⟩ := h.a (by simpa using hd)
  exact ⟨st, es, ⟨ho2.r0, ho2.r1, ho2.r2, ho2.r3, World.ownsRow.kept ho2.mem hg (own_ne ho2.mem hS), World.ownsRow.kept ho2.stack hg (own_ne ho2.stack hS), ho2.pc, ho2.dj⟩⟩
 ·exact World.ownsRow.kept (h.e (by simpa using hd)) hg (own_ne (h.e (by simpa using hd)) hS)
 ·exact World.ownsRow.kept (h.q (by simpa using hd)) hg (own_ne (h.q (by simpa using hd)) hS)
 ·exact h.ae (by simpa using ga) (by simpa using gb)
 ·exact h.aq (by simpa using ga) (by simpa using gb)
 ·exact h.eq (by simpa using ga) (by simpa using gb)
 ·rw [hw]
  simp only [cstCs, show (10 == 10) = true from rfl, Bool.or_true, if_true, show (12 == 10) = false from rfl, show (14 == 10) = false from rfl, Bool.or_false, show ¬ ((2 : Nat) = 10) by decide, show ¬ ((5 : Nat) = 10) by decide, show ¬ ((8 : Nat) = 10) by decide, if_false, es, agg_st]
end
set_option maxRecDepth 100000 in
set_option maxHeartbeats 8000000 in
theorem cstill_region {z0 z2 z3 z4 z5 z6 z7 z8 z9 z10 z11 z12 z13 z14 z15 : Value} (w0 : World) (S N0 : Nat) (c : Cnf) (m : Conf) (X : Kept (w0.heap[S]? = some (.cells c.cs.toArray 41 (0, 0)))) (Hst : StAt w0 S c.st m.st) (Hbuf : RdAtE w0 S c.buf m.buf) (Hrsb : RdAt w0 S c.rsb m.rsb)
  (hml : m.st.mem.length ≤ 1000) (hsl : m.st.stack.length ≤ 1000) (hbl : m.buf.length ≤ 1000) (hrl : m.rsb.length ≤ 1000) (hN : w0.heap.size = N0) (hS : S < N0) (Q : Exit → Act → World → Prop)
  (hQ : ∀ (u3 u4 u5 u6 u7 u8 u9 u10 u11 u12 u13 u14 : Value) (w' : World) (st : Stt) (s5 s8 : Sl), StOwn w' N0 st m.st → OwnE w' N0 (.slice s5.A s5.n s5.c) m.buf → OwnI w' N0 (.slice s8.A s8.n s8.c) m.rsb → Dj st.v (.slice s5.A s5.n s5.c) → Dj st.v (.slice s8.A s8.n s8.c) → Dj (.slice s5.A s5.n s5.c) (.slice s8.A s8.n s8.c) →
   w'.heap[S]? = some (.cells (Cnf.cs ⟨st, s5, s8, c.fin⟩).toArray 41 (0, 0)) → w0.grownBy w' (some S) → Q .normal ⟨#[z0, .pointer (some ⟨S, 0, none⟩), z2, u3, u4, u5, u6, u7, u8, u9, u10, u11, u12, u13, u14, z15], []⟩ w') :
  Code.wp Try.prog (regC 1) Q ⟨#[z0, .pointer (some ⟨S, 0, none⟩), z2, z3, z4, z5, z6, z7, z8, z9, z10, z11, z12, z13, z14, z15], []⟩ w0 := by
 conv => arg 2; whnf
 refine region_tellz (fun done vals w => CZ w0 S N0 c m done vals w) (S) (G := fun _ => True) (ts := [
   .is (Value.pointer (some ⟨S, 0, none⟩)),
   .is c.st.v,
   .turns (fun v _ => True) (fun _ _ => True),
   .is (Value.pointer (some ⟨S, 7, none⟩)),
   .is (.slice c.buf.A c.buf.n c.buf.c),
   .turns (fun v _ => True) (fun _ _ => True),
   .is (Value.pointer (some ⟨S, 8, none⟩)),
   .is (.slice c.rsb.A c.rsb.n c.rsb.c),
   .turns (fun v _ => True) (fun _ _ => True),
   .is (Value.pointer (some ⟨S, 0, none⟩)),
   .sets (fun _ _ => True),
   .is (Value.pointer (some ⟨S, 7, none⟩)),
   .sets (fun _ _ => True),
   .is (Value.pointer (some ⟨S, 8, none⟩)),
   .sets (fun _ _ => True)])
  (fin := []) (cs := [(2, 5), (2, 8), (2, 10), (2, 12), (2, 14), (5, 2), (5, 8), (5, 10), (5, 12), (5, 14), (8, 2), (8, 5), (8, 10), (8, 12), (8, 14), (10, 2), (10, 5), (10, 8), (10, 12), (10, 14), (12, 2), (12, 5), (12, 8), (12, 10), (12, 14), (14, 2), (14, 5), (14, 8), (14, 10), (14, 12)]) ?z0 ?zg (by kernel_rfl) rfl (by kernel_rfl) (by kernel_rfl)
  ⟨trivial, trivial, grows_pure _, trivial, trivial, grows_pure _, trivial, trivial, grows_pure _, trivial, (fun _ _ _ _ _ => trivial), trivial, (fun _ _ _ _ _ => trivial), trivial, (fun _ _ _ _ _ => trivial), trivial⟩ (fun _ _ _ _ => trivial) ?cs (by omega) trivial
  ⟨?_, ?_, ?_, ?_, ?_, ?_, ?_, ?_, ?_, ?_, ?_, ?_, ?_, ?_, ?_, trivial⟩ ?_
 case z0 =>
  show _
  exact CZ.start X.out hN
 case zg =>
  intro i done vals w1 w2 v hti hni hZ hb
  have hz := hZ
  ·skip
   have hz : CZ w0 S N0 c m done vals w1 := hz
   have h2 : ¬ 2 = i := by rintro rfl; cases hti
   have h5 : ¬ 5 = i := by rintro rfl; cases hti
   have h8 : ¬ 8 = i := by rintro rfl; cases hti
   have h10 : ¬ 10 = i := by rintro rfl; cases hti
   have h12 : ¬ 12 = i := by rintro rfl; cases hti
   have h14 : ¬ 14 = i := by rintro rfl; cases hti
   exact hz.other h2 h5 h8 h10 h12 h14 hb hS
 case cs =>
  intro p hp v w1 w2 hG hR hE
  simp only [List.mem_cons, List.not_mem_nil, or_false] at hp
  rcases hp with rfl | rfl | rfl | rfl | rfl | rfl | rfl | rfl | rfl | rfl | rfl | rfl | rfl | rfl | rfl | rfl | rfl | rfl | rfl | rfl | rfl | rfl | rfl | rfl | rfl | rfl | rfl | rfl | rfl | rfl
  ·exact hR
  ·exact hR
  ·exact hR
  ·exact hR
  ·exact hR
  ·exact hR
  ·exact hR
  ·exact hR
  ·exact hR
  ·exact hR
  ·exact hR
  ·exact hR
  ·exact hR
  ·exact hR
  ·exact hR
  ·exact hR
  ·exact hR
  ·exact hR
  ·exact hR
  ·exact hR
  ·exact hR
  ·exact hR
  ·exact hR
  ·exact hR
  ·exact hR
  ·exact hR
  ·exact hR
  ·exact hR
  ·exact hR
  ·exact hR
 ·intro done vals w1 hB _ hZ hni hcl hdn hd
  clear hd
  refine one_value (v := Value.pointer (some ⟨S, 0, none⟩)) rfl ?_ ⟨post_is rfl, noturn rfl⟩
  kernel_rfl
 ·intro done vals w1 hB _ hZ hni hcl hdn hd
  clear hd
  have hz : CZ w0 S N0 c m done vals w1 := hZ
  have h9 := hcl 10 _ rfl (by kernel_rfl)
  refine one_value (v := c.st.v) rfl ?_ ⟨post_is rfl, noturn rfl⟩
  exact exec_load_row rfl (b := S) (off := 0) (by kernel_rfl) (Stt.cs c.st) (hz.stcells h9) Try.underlying36 rfl (by kernel_rfl)
 ·intro done vals w1 hB _ hZ hni hcl hdn hd
  clear hd
  have hz : CZ w0 S N0 c m done vals w1 := hZ
  refine one_calls (f := 85) (args := #[c.st.v]) (w1 := w1) rfl (by kernel_rfl) ?_
  refine (astill_any c.st m.st w1 (Hst.is (below_of_grown hz.g (by omega)) hN hS) hml hsl).mono ?_
  rintro e1 w2 ⟨st, rfl, ho, hb2⟩
  exact ⟨st.v, rfl, post_turns rfl trivial (hB.trans (hb2.mono (by have := hB.size; omega))) trivial hb2.size trivial, fun _ => hz.mk2 hni ho hb2 hS (hcl 10 _ rfl (by kernel_rfl))⟩
 ·intro done vals w1 hB _ hZ hni hcl hdn hd
  clear hd
  refine one_value (v := Value.pointer (some ⟨S, 7, none⟩)) rfl ?_ ⟨post_is rfl, noturn rfl⟩
  kernel_rfl
 ·intro done vals w1 hB _ hZ hni hcl hdn hd
  clear hd
  have hz : CZ w0 S N0 c m done vals w1 := hZ
  have h9 := hcl 12 _ rfl (by kernel_rfl)
  refine one_value (v := .slice c.buf.A c.buf.n c.buf.c) rfl ?_ ⟨post_is rfl, noturn rfl⟩
  exact exec_cell rfl (by kernel_rfl) (hz.bufcell h9) Try.underlying39 rfl
 ·intro done vals w1 hB _ hZ hni hcl hdn hd
  clear hd
  have hz : CZ w0 S N0 c m done vals w1 := hZ
  refine one_calls (f := 91) (args := #[.slice c.buf.A c.buf.n c.buf.c]) (w1 := w1) rfl (by kernel_rfl) ?_
  refine (clone_ent_at c.buf.A c.buf.n c.buf.c m.buf w1 Hbuf.n.symm (reads_below Hbuf.r (below_of_grown hz.g (by omega)) hN hS) (by have := Hbuf.n; omega)).mono ?_
  rintro e1 w2 ⟨v2, rfl, ho, hb2⟩
  exact ⟨v2, rfl, post_turns rfl trivial (hB.trans (hb2.mono (by have := hB.size; omega))) trivial hb2.size trivial, fun _ => hz.mk5 hni ho hb2 hS (hcl 12 _ rfl (by kernel_rfl))⟩
 ·intro done vals w1 hB _ hZ hni hcl hdn hd
  clear hd
  refine one_value (v := Value.pointer (some ⟨S, 8, none⟩)) rfl ?_ ⟨post_is rfl, noturn rfl⟩
  kernel_rfl
 ·intro done vals w1 hB _ hZ hni hcl hdn hd
  clear hd
  have hz : CZ w0 S N0 c m done vals w1 := hZ
  have h9 := hcl 14 _ rfl (by kernel_rfl)
  refine one_value (v := .slice c.rsb.A c.rsb.n c.rsb.c) rfl ?_ ⟨post_is rfl, noturn rfl⟩
  exact exec_cell rfl (by kernel_rfl) (hz.rsbcell h9) Try.underlying22 rfl
 ·intro done vals w1 hB _ hZ hni hcl hdn hd
  clear hd
  have hz : CZ w0 S N0 c m done vals w1 := hZ
  refine one_calls (f := 54) (args := #[.slice c.rsb.A c.rsb.n c.rsb.c]) (w1 := w1) rfl (by kernel_rfl) ?_
  refine (clone_int_at c.rsb.A c.rsb.n c.rsb.c m.rsb w1 Hrsb.n.symm (reads_below Hrsb.r (below_of_grown hz.g (by omega)) hN hS) (by have := Hrsb.n; omega)).mono ?_
  rintro e1 w2 ⟨v2, rfl, ho, hb2⟩
  exact ⟨v2, rfl, post_turns rfl trivial (hB.trans (hb2.mono (by have := hB.size; omega))) trivial hb2.size trivial, fun _ => hz.mk8 hni ho hb2 hS (hcl 14 _ rfl (by kernel_rfl))⟩
 ·intro done vals w1 hB _ hZ hni hcl hdn hd
  clear hd
  refine one_value (v := Value.pointer (some ⟨S, 0, none⟩)) rfl ?_ ⟨post_is rfl, noturn rfl⟩
  kernel_rfl
 ·intro done vals w1 hB _ hZ hni hcl hdn hd
  clear hd
  have hz : CZ w0 S N0 c m done vals w1 := hZ
  have hj := hdn 2 (by kernel_rfl)
  obtain ⟨st, es, ho⟩ := hz.a hj
  obtain ⟨w2, hr2, hw2, hg2⟩ := run_store_part (P := Try.prog) (ty := 36) (vals 2) st.cs (by rw [es]; rfl) (hz.x10 hni) rfl (by rfl) (by kernel_rfl)
  refine one_skips (w' := w2) rfl ?_ ⟨post_sets rfl (Below.keepTo hB hg2 (Nat.le_refl _) (by have := hB.size; omega)) trivial hg2.size trivial, fun _ => hz.st10 hj hni es hw2 hg2 hS⟩
  exact exec_store rfl (by kernel_rfl) (by kernel_rfl) hr2
 ·intro done vals w1 hB _ hZ hni hcl hdn hd
  clear hd
  refine one_value (v := Value.pointer (some ⟨S, 7, none⟩)) rfl ?_ ⟨post_is rfl, noturn rfl⟩
  kernel_rfl
 ·intro done vals w1 hB _ hZ hni hcl hdn hd
  clear hd
  have hz : CZ w0 S N0 c m done vals w1 := hZ
  have hj := hdn 5 (by kernel_rfl)
  obtain ⟨s, es, ho⟩ := (hz.e hj).sl
  have hst := grown_setCell w1 ⟨S, 7, none⟩ (vals 5)
  refine one_skips (w' := w1.setCell ⟨S, 7, none⟩ (vals 5)) rfl ?_ ⟨post_sets rfl (hB.setCell (Nat.le_refl _) _) trivial hst.size trivial, fun _ => hz.st12 hj hni hS⟩
  have hc := hz.bufcell hni
  have hf := frozen_of_row w1 S 7 _ _ hz.x
  rw [vals_at es]
  exact exec_store rfl (by kernel_rfl) (by kernel_rfl) (run_store_sl1 hc hf (by kernel_rfl))
 ·intro done vals w1 hB _ hZ hni hcl hdn hd
  clear hd
  refine one_value (v := Value.pointer (some ⟨S, 8, none⟩)) rfl ?_ ⟨post_is rfl, noturn rfl⟩
  kernel_rfl
 ·intro done vals w1 hB _ hZ hni hcl hdn hd
  clear hd
  have hz : CZ w0 S N0 c m done vals w1 := hZ
  have hj := hdn 8 (by kernel_rfl)
  obtain ⟨s, es, ho⟩ := (hz.q hj).sl
  have hst := grown_setCell w1 ⟨S, 8, none⟩ (vals 8)
  refine one_skips (w' := w1.setCell ⟨S, 8, none⟩ (vals 8)) rfl ?_ ⟨post_sets rfl (hB.setCell (Nat.le_refl _) _) trivial hst.size trivial, fun _ => hz.st14 hj hni hS⟩
  have hc := hz.rsbcell hni
  have hf := frozen_of_row w1 S 8 _ _ hz.x
  rw [vals_at es]
  exact exec_store rfl (by kernel_rfl) (by kernel_rfl) (run_store_sl1 hc hf (by kernel_rfl))
 intro done vals w9 b9 _ hall hZ hr
 have hz : CZ w0 S N0 c m done vals w9 := hZ
 obtain ⟨st, e2, o2⟩ := hz.a (hall 2 (by simp))
 obtain ⟨s5, e5, o5⟩ := (hz.e (hall 5 (by simp))).sl
 obtain ⟨s8, e8, o8⟩ := (hz.q (hall 8 (by simp))).sl
 have a25 := hz.ae (hall 2 (by simp)) (hall 5 (by simp))
 have a28 := hz.aq (hall 2 (by simp)) (hall 8 (by simp))
 have a58 := hz.eq (hall 5 (by simp)) (hall 8 (by simp))
 have hx := hz.x
 simp only [cstCs, hall 10 (by simp), hall 12 (by simp), hall 14 (by simp), if_true] at hx
 clear hr
 simp only [fillT, Tell.is, Tell.turns, Act.put, List.setIfInBounds_toArray, List.set_cons_zero, List.set_cons_succ]
 rw [e2, e5, e8, agg_st] at hx
 rw [e2, e5] at a25
 rw [e2, e8] at a28
 rw [e5, e8] at a58
 exact hQ _ _ _ _ _ _ _ _ _ _ _ _ w9 st s5 s8 o2 o5 o8 a25 a28 a58 hx hz.g
end Go.Proofs.Ytchldbkjapnlcaa
end
section
namespace Go.Proofs.Ytchldbkjapnlcaa
open Go.RowKit

set_option maxRecDepth 100000 in
set_option maxHeartbeats 2000000 in
theorem cstill_any (c : Cnf) (m : Conf) (w : World) (hc : CfIs w c m) (hml : m.st.mem.length ≤ 1000) (hsl : m.st.stack.length ≤ 1000) (hbl : m.buf.length ≤ 1000) (hrl : m.rsb.length ≤ 1000) :
  Calls Try.prog 63 #[c.v] w fun en w' => ∃ c' : Cnf, en = .returned c'.v ∧ CfOwn w' w.heap.size c' m ∧ Below w.heap.size w w' := by
 have HC := Kept.mk hc
 obtain ⟨⟨r0, r1, r2, r3, ⟨mA, mN, mC⟩, ⟨sA, sN, sC⟩, pc⟩, ⟨bA, bN, bC⟩, ⟨qA, qN, qC⟩, fin⟩ := c
 clear hc
 go_enter Try.func63, Try.ntmps63
 go_wp2_with fail
 have bb := (below_alloc_self w (.cells #[.int .i64 r0, .int .i64 r1, .int .i64 r2, .int .i64 r3, .slice mA mN mC, .slice sA sN sC, .int .i64 pc, .slice bA bN bC, .slice qA qN qC, .int .i64 fin] 41)).alloc (by simp) (.cells #[.int .i64 0, .int .i64 0, .int .i64 0, .int .i64 0, .slice none 0 0, .slice none 0 0, .int .i64 0, .slice none 0 0, .slice none 0 0, .int .i64 0] 41)
 have X1 := Kept.mk ((heap_alloc_old (w.alloc (.cells #[.int .i64 r0, .int .i64 r1, .int .i64 r2, .int .i64 r3, .slice mA mN mC, .slice sA sN sC, .int .i64 pc, .slice bA bN bC, .slice qA qN qC, .int .i64 fin] 41)) (.cells #[.int .i64 0, .int .i64 0, .int .i64 0, .int .i64 0, .slice none 0 0, .slice none 0 0, .int .i64 0, .slice none 0 0, .slice none 0 0, .int .i64 0] 41) (by simp)).trans (heap_alloc_new w (.cells #[.int .i64 r0, .int .i64 r1, .int .i64 r2, .int .i64 r3, .slice mA mN mC, .slice sA sN sC, .int .i64 pc, .slice bA bN bC, .slice qA qN qC, .int .i64 fin] 41)))
 have X2 := Kept.mk (heap_alloc2_new w (.cells #[.int .i64 r0, .int .i64 r1, .int .i64 r2, .int .i64 r3, .slice mA mN mC, .slice sA sN sC, .int .i64 pc, .slice bA bN bC, .slice qA qN qC, .int .i64 fin] 41) (.cells #[.int .i64 0, .int .i64 0, .int .i64 0, .int .i64 0, .slice none 0 0, .slice none 0 0, .int .i64 0, .slice none 0 0, .slice none 0 0, .int .i64 0] 41))
 have SZ : ((w.alloc (.cells #[.int .i64 r0, .int .i64 r1, .int .i64 r2, .int .i64 r3, .slice mA mN mC, .slice sA sN sC, .int .i64 pc, .slice bA bN bC, .slice qA qN qC, .int .i64 fin] 41)).alloc (.cells #[.int .i64 0, .int .i64 0, .int .i64 0, .int .i64 0, .slice none 0 0, .slice none 0 0, .int .i64 0, .slice none 0 0, .slice none 0 0, .int .i64 0] 41)).heap.size = w.heap.size + 2 := by simp
 have W2 := Kept.mk bb
 have RST : StAt ((w.alloc (.cells #[.int .i64 r0, .int .i64 r1, .int .i64 r2, .int .i64 r3, .slice mA mN mC, .slice sA sN sC, .int .i64 pc, .slice bA bN bC, .slice qA qN qC, .int .i64 fin] 41)).alloc (.cells #[.int .i64 0, .int .i64 0, .int .i64 0, .int .i64 0, .slice none 0 0, .slice none 0 0, .int .i64 0, .slice none 0 0, .slice none 0 0, .int .i64 0] 41)) w.heap.size ⟨r0, r1, r2, r3, ⟨mA, mN, mC⟩, ⟨sA, sN, sC⟩, pc⟩ m.st := ⟨HC.out.st.r0, HC.out.st.r1, HC.out.st.r2, HC.out.st.r3, HC.out.st.mem.at_ rfl bb, HC.out.st.mem.c, HC.out.st.stack.at_ rfl bb, HC.out.st.stack.c, HC.out.st.pc⟩
 have RB : RdAtE ((w.alloc (.cells #[.int .i64 r0, .int .i64 r1, .int .i64 r2, .int .i64 r3, .slice mA mN mC, .slice sA sN sC, .int .i64 pc, .slice bA bN bC, .slice qA qN qC, .int .i64 fin] 41)).alloc (.cells #[.int .i64 0, .int .i64 0, .int .i64 0, .int .i64 0, .slice none 0 0, .slice none 0 0, .int .i64 0, .slice none 0 0, .slice none 0 0, .int .i64 0] 41)) w.heap.size ⟨bA, bN, bC⟩ m.buf := ⟨HC.out.buf.n, Reads.below HC.out.buf.r bb⟩
 have RQ := HC.out.rsb.at_ rfl bb
 clear bb
 generalize (w.alloc (.cells #[.int .i64 r0, .int .i64 r1, .int .i64 r2, .int .i64 r3, .slice mA mN mC, .slice sA sN sC, .int .i64 pc, .slice bA bN bC, .slice qA qN qC, .int .i64 fin] 41)).alloc (.cells #[.int .i64 0, .int .i64 0, .int .i64 0, .int .i64 0, .slice none 0 0, .slice none 0 0, .int .i64 0, .slice none 0 0, .slice none 0 0, .int .i64 0] 41) = w2 at *
 refine cstill_region w2 w.heap.size (w.heap.size + 2) ⟨⟨r0, r1, r2, r3, ⟨mA, mN, mC⟩, ⟨sA, sN, sC⟩, pc⟩, ⟨bA, bN, bC⟩, ⟨qA, qN, qC⟩, fin⟩ m X1 RST RB RQ hml hsl hbl hrl SZ (by omega) _ ?_
 intro u3 u4 u5 u6 u7 u8 u9 u10 u11 u12 u13 u14 w9 st s5 s8 o2 o5 o8 d25 d28 d58 hx9 hg9
 obtain ⟨t0, t1, t2, t3, ⟨eA, eN, eC⟩, ⟨fA, fN, fC⟩, tpc⟩ := st
 obtain ⟨gA, gN, gC⟩ := s5
 obtain ⟨hA, hN, hC⟩ := s8
 have O9 : Kept (CfOwn w9 (w.heap.size + 2) ⟨⟨t0, t1, t2, t3, ⟨eA, eN, eC⟩, ⟨fA, fN, fC⟩, tpc⟩, ⟨gA, gN, gC⟩, ⟨hA, hN, hC⟩, fin⟩ m) := ⟨⟨o2, o5, o8, HC.out.fin, d25, d28, d58⟩⟩
 have K2 := Kept.mk ((hg9.block (w.heap.size + 1) (by omega) (by intro h; injection h with h; omega)).trans X2.out)
 have W9 := Kept.mk (W2.out.trans (below_of_grown hg9 (by omega)))
 have Y1 := fun j => cell_of_row w9 w.heap.size j _ _ _ hx9
 have Y2 := fun j => cell_of_row w9 (w.heap.size + 1) j _ _ _ K2.out
 have F2 := fun j => frozen_of_row w9 (w.heap.size + 1) j _ _ K2.out
 simp only [Cnf.cs] at Y1
 clear o2 o5 o8 d25 d28 d58 hx9 hg9 X1 X2 W2 RST RB RQ
 go_wp2_with fail
 have x4 := cnf_set2 (w := w9) (g := w.heap.size + 1) Cnf.zero ⟨⟨t0, t1, t2, t3, ⟨eA, eN, eC⟩, ⟨fA, fN, fC⟩, tpc⟩, ⟨gA, gN, gC⟩, ⟨hA, hN, hC⟩, fin⟩ K2.out
 have wb := below10 (g := w.heap.size + 1) ⟨⟨t0, t1, t2, t3, ⟨eA, eN, eC⟩, ⟨fA, fN, fC⟩, tpc⟩, ⟨gA, gN, gC⟩, ⟨hA, hN, hC⟩, fin⟩ W9.out (by omega)
 dsimp only at x4 wb
 refine at_ret _ [Cnf.v ⟨⟨t0, t1, t2, t3, ⟨eA, eN, eC⟩, ⟨fA, fN, fC⟩, tpc⟩, ⟨gA, gN, gC⟩, ⟨hA, hN, hC⟩, fin⟩] Try.results63 (.cons (.cell (cs := Cnf.cs ⟨⟨t0, t1, t2, t3, ⟨eA, eN, eC⟩, ⟨fA, fN, fC⟩, tpc⟩, ⟨gA, gN, gC⟩, ⟨hA, hN, hC⟩, fin⟩) (b := w.heap.size + 1) (off := 0) rfl rfl (cells_of_block x4) Try.underlying41 rfl (by kernel_rfl)) .nil) rfl ?_
 refine ⟨⟨⟨t0, t1, t2, t3, ⟨eA, eN, eC⟩, ⟨fA, fN, fC⟩, tpc⟩, ⟨gA, gN, gC⟩, ⟨hA, hN, hC⟩, fin⟩, rfl, ?_, wb⟩
 refine CfOwn.lower (B := w.heap.size + 2) ?_ (by omega)
 iterate 10 refine CfOwn.far ?_ (by show w.heap.size + 1 < w.heap.size + 2; omega) _
 exact O9.out
end Go.Proofs.Ytchldbkjapnlcaa
end
section
namespace Go.Proofs.Ytchldbkjapnlcaa
open Go.RowKit

/-- A machine that is answered, or none. -/
def CfGot (x : Option Conf) (w : World) (en : Ending) (w' : World) : Prop := ∃ c : Cnf, en = .returned (.tuple #[c.v, .bool x.isSome]) ∧ CfIs w' c (x.getD Conf.zero) ∧ Below w.heap.size w w'
/-- A machine whose rows are of the call's own. -/
structure Cf4 (w : World) (B : Nat) (c : Cnf) (m : Conf) : Prop where
 r0 : c.st.r0 = m.st.r0
 r1 : c.st.r1 = m.st.r1
 r2 : c.st.r2 = m.st.r2
 r3 : c.st.r3 = m.st.r3
 mem : OwnI w B (.slice c.st.mem.A c.st.mem.n c.st.mem.c) m.st.mem
 stack : OwnI w B (.slice c.st.stack.A c.st.stack.n c.st.stack.c) m.st.stack
 pc : c.st.pc = m.st.pc
 buf : OwnE w B (.slice c.buf.A c.buf.n c.buf.c) m.buf
 rsb : OwnI w B (.slice c.rsb.A c.rsb.n c.rsb.c) m.rsb
 fin : c.fin = m.fin
theorem Cf4.is {w : World} {B : Nat} {c : Cnf} {m : Conf} (h : Cf4 w B c m) : CfIs w c m := ⟨⟨h.r0, h.r1, h.r2, h.r3, OwnI.is h.mem, OwnI.is h.stack, h.pc⟩, OwnE.is h.buf, OwnI.is h.rsb, h.fin⟩
theorem Cf4.past {w w' : World} {B : Nat} {c : Cnf} {m : Conf} (h : Cf4 w B c m) (hb : Below w.heap.size w w') : Cf4 w' B c m := ⟨h.r0, h.r1, h.r2, h.r3, OwnI.past h.mem hb, OwnI.past h.stack hb, h.pc, OwnE.past h.buf hb, OwnI.past h.rsb hb, h.fin⟩
theorem Cf4.lower {w : World} {B B' : Nat} {c : Cnf} {m : Conf} (h : Cf4 w B c m) (hb : B' ≤ B) : Cf4 w B' c m := ⟨h.r0, h.r1, h.r2, h.r3, OwnI.lower h.mem hb, OwnI.lower h.stack hb, h.pc, OwnE.lower h.buf hb, OwnI.lower h.rsb hb, h.fin⟩
theorem Cf4.far {w : World} {B : Nat} {c : Cnf} {m : Conf} (h : Cf4 w B c m) {p : Addr} (hp : p.block < B) (u : Value) : Cf4 (w.setCell p u) B c m := ⟨h.r0, h.r1, h.r2, h.r3, OwnI.far h.mem hp u, OwnI.far h.stack hp u, h.pc, OwnE.far h.buf hp u, OwnI.far h.rsb hp u, h.fin⟩
theorem Cf4.zero {w : World} {B : Nat} : Cf4 w B Cnf.zero Conf.zero := ⟨rfl, rfl, rfl, rfl, OwnI.nil, OwnI.nil, rfl, OwnE.nil, OwnI.nil, rfl⟩
def CfGot4 (x : Option Conf) (w : World) (en : Ending) (w' : World) : Prop := ∃ c : Cnf, en = .returned (.tuple #[c.v, .bool x.isSome]) ∧ Cf4 w' w.heap.size c (x.getD Conf.zero) ∧ Below w.heap.size w w'
theorem CfGot4.got {x : Option Conf} {w w' : World} {en : Ending} (h : CfGot4 x w en w') : CfGot x w en w' := by
 obtain ⟨c, e, h1, h2⟩ := h
 exact ⟨c, e, h1.is, h2⟩
def fetchQ (win : Int) (il : List Inst) (m : Conf) (g : Int) : Option Conf := if 0 ≤ g ∧ g < guessesOf win il m then some (fetchOf il m g) else none
end Go.Proofs.Ytchldbkjapnlcaa
end
