/- arch.Still, conf.Still: a machine of its own memory. -/
import Derived.Test.YtchldbkjapnlcaaJRet
import Derived.Test.YtchldbkjapnlcaaJc
set_option linter.unusedVariables false
set_option linter.unusedSimpArgs false
namespace Go.Proofs.Ytchldbkjapnlcaa
open Go.RowKit
section
noncomputable def regA (id : Nat) : Code := (Try.f85.body.bind (findRegion id)).getD .skip
theorem stt_set0 {w : World} {g : Nat} {t : TypeId} (old e : Stt) (h : w.heap[g]? = some (.cells old.cs.toArray t (0, 0))) :
  (((((((w.setCell ⟨g, 0, none⟩ (.int .i64 e.r0)).setCell ⟨g, 1, none⟩ (.int .i64 e.r1)).setCell ⟨g, 2, none⟩ (.int .i64 e.r2)).setCell ⟨g, 3, none⟩ (.int .i64 e.r3)).setCell ⟨g, 4, none⟩ (.slice e.mem.A e.mem.n e.mem.c)).setCell ⟨g, 5, none⟩ (.slice e.stack.A e.stack.n e.stack.c)).setCell ⟨g, 6, none⟩ (.int .i64 e.pc)).heap[g]? = some (.cells e.cs.toArray t (0, 0)) := by
 rw [heap_setCell_same _ g 6 _ t _ (heap_setCell_same _ g 5 _ t _ (heap_setCell_same _ g 4 _ t _ (heap_setCell_same _ g 3 _ t _ (heap_setCell_same _ g 2 _ t _ (heap_setCell_same _ g 1 _ t _ (heap_setCell_same _ g 0 _ t _ h))))))]
 rfl
theorem q2A {w0 w : World} {S : Nat} (h : w0.grownBy w (some S)) (hS : S ≤ w0.heap.size) : Below S w0 w := ⟨h.os, h.tape, h.output, h.size, fun i hi => h.block i (by omega) (by intro e; injection e with e; omega)⟩
theorem reads_below {w0 w : World} {S N0 size n : Nat} {A : Option Addr} {xs : List Value} (h : Reads w0 S size A n xs) (hb : Below S w0 w) (hN : w0.heap.size = N0) (hS : S < N0) : Reads w w.heap.size size A n xs :=
 (h.below hb).more (by have := hb.size; omega)
def stlCs (c : Stt) (done : Nat → Bool) (vals : Nat → Value) : List Value := [.int .i64 c.r0, .int .i64 c.r1, .int .i64 c.r2, .int .i64 c.r3, (if done 7 = true then vals 2 else .slice c.mem.A c.mem.n c.mem.c), (if done 9 = true then vals 5 else .slice c.stack.A c.stack.n c.stack.c), .int .i64 c.pc]
structure RdAt (w : World) (S : Nat) (s : Sl) (l : List Int) : Prop where
 n : s.n = l.length
 r : Reads w S 1 s.A l.length (intCs l)
structure AZ (w0 : World) (S N0 : Nat) (c : Stt) (m : State) (done : Nat → Bool) (vals : Nat → Value) (w : World) : Prop where
 s : N0 ≤ w.heap.size
 g : w0.grownBy w (some S)
 a : done 2 = true → OwnI w N0 (vals 2) m.mem
 s5 : done 5 = true → OwnI w N0 (vals 5) m.stack
 ap : done 2 = true → done 5 = true → ∀ k, (vals 2).ownBlock = some k → (vals 5).ownBlock ≠ some k
 x : w.heap[S]? = some (.cells (stlCs c done vals).toArray 36 (0, 0))
section
variable {w0 w : World} {S N0 : Nat} {c : Stt} {m : State} {done : Nat → Bool} {vals : Nat → Value}
theorem AZ.start (h : w0.heap[S]? = some (.cells c.cs.toArray 36 (0, 0))) (hN : w0.heap.size = N0) : AZ w0 S N0 c m (fun _ => false) (fun _ => undef) w0.drew := by
 refine ⟨by show N0 ≤ w0.heap.size; omega, q1A (Below.refl _ _).drew _, fun h => (by cases h), fun h => (by cases h), fun h => (by cases h), ?_⟩
 have h2 : w0.drew.heap[S]? = some (.cells c.cs.toArray 36 (0, 0)) := h
 simpa [stlCs, Stt.cs] using h2
theorem AZ.other {i : Nat} {v : Value} {w' : World} (h : AZ w0 S N0 c m done vals w) (h2 : ¬ 2 = i) (h5 : ¬ 5 = i) (h7 : ¬ 7 = i) (h9 : ¬ 9 = i) (hb : Below w.heap.size w w') (hS : S < N0) :
  AZ w0 S N0 c m (fun j => done j || j == i) (fun j => if j = i then v else vals j) w' := by
 have e : ∀ k, ¬ k = i → (done k || k == i) = done k := fun k hk => by rw [show (k == i) = false by simpa using hk, Bool.or_false]
 have hs : N0 ≤ w.heap.size := h.s
 refine ⟨Nat.le_trans hs hb.size, h.g.trans (q1A hb _), fun hd => ?_, fun hd => ?_, fun g2 g5 => ?_, ?_⟩
 ·simp only [e 2 h2] at hd
  simp only [if_neg h2]
  exact (h.a hd).past hb
 ·simp only [e 5 h5] at hd
  simp only [if_neg h5]
  exact (h.s5 hd).past hb
 ·simp only [e 2 h2] at g2
  simp only [e 5 h5] at g5
  simp only [if_neg h2, if_neg h5]
  exact h.ap g2 g5
 ·have := q01 h.x hb
  simp only [stlCs, e 7 h7, e 9 h9, if_neg h2, if_neg h5] at this ⊢
  exact this
theorem AZ.sl2 (h : AZ w0 S N0 c m done vals w) (hd : done 2 = true) : ∃ s : Sl, vals 2 = .slice s.A s.n s.c ∧ OwnI w N0 (.slice s.A s.n s.c) m.mem := by
 have ho := h.a hd
 obtain ⟨s, e, ho'⟩ := ho.sl
 exact ⟨s, e, ho'⟩
theorem AZ.mk2 {v : Value} {w' : World} (h : AZ w0 S N0 c m done vals w) (hi : done 2 = false) (ho : OwnI w' w.heap.size v m.mem) (hb : Below w.heap.size w w') (hS : S < N0) (hst : done 7 = false) :
  AZ w0 S N0 c m (fun j => done j || j == 2) (fun j => if j = 2 then v else vals j) w' := by
 have hs : N0 ≤ w.heap.size := h.s
 refine ⟨hb.size |> Nat.le_trans hs, h.g.trans (q1A hb _), fun hd => ?_, fun hd => ?_, fun h2 h5 => ?_, ?_⟩
 ·exact ho.lower hs
 ·exact (h.s5 (by simpa using hd)).past hb
 ·have hlo := fun k hk => (World.ownsRow.lt ho k hk).1
  have hot := fun k hk => (World.ownsRow.lt (h.s5 (by simpa using h5)) k hk).2
  show ∀ k, (if 2 = 2 then v else vals 2).ownBlock = some k → (if 5 = 2 then v else vals 5).ownBlock ≠ some k
  simp only [if_true, show ¬ (5 = 2) by decide, if_false]
  intro k hk hk'
  have := hlo k hk
  have := hot k hk'
  omega
 ·have := q01 h.x hb
  simp only [stlCs] at this ⊢
  simp only [hst, Bool.false_or, show (7 == 2) = false from rfl, show (9 == 2) = false from rfl, Bool.or_false, show ¬ ((5 : Nat) = 2) by decide, if_false, Bool.false_eq_true] at this ⊢
  exact this
theorem AZ.st7 (h : AZ w0 S N0 c m done vals w) (hj : done 2 = true) (hi : done 7 = false) (hS : S < N0) :
  AZ w0 S N0 c m (fun j => done j || j == 7) (fun j => if j = 7 then undef else vals j) (w.setCell ⟨S, 4, none⟩ (vals 2)) := by
 refine ⟨by simpa [World.setCell] using h.s, h.g.trans (q08 w ⟨S, 4, none⟩ (vals 2)), fun hd => ?_, fun hd => ?_, fun h2 h5 => ?_, ?_⟩
 ·exact OwnI.far (h.a (by simpa using hd)) (by show S < N0; omega) _
 ·exact OwnI.far (h.s5 (by simpa using hd)) (by show S < N0; omega) _
 ·exact h.ap (by simpa using h2) (by simpa using h5)
 ·have := heap_setCell_same w S 4 _ _ (vals 2) h.x
  simp only [stlCs] at this ⊢
  rw [this]
  simp [hi]
theorem AZ.sl5 (h : AZ w0 S N0 c m done vals w) (hd : done 5 = true) : ∃ s : Sl, vals 5 = .slice s.A s.n s.c ∧ OwnI w N0 (.slice s.A s.n s.c) m.stack := by
 have ho := h.s5 hd
 obtain ⟨s, e, ho'⟩ := ho.sl
 exact ⟨s, e, ho'⟩
theorem AZ.mk5 {v : Value} {w' : World} (h : AZ w0 S N0 c m done vals w) (hi : done 5 = false) (ho : OwnI w' w.heap.size v m.stack) (hb : Below w.heap.size w w') (hS : S < N0) (hst : done 9 = false) :
  AZ w0 S N0 c m (fun j => done j || j == 5) (fun j => if j = 5 then v else vals j) w' := by
 have hs : N0 ≤ w.heap.size := h.s
 refine ⟨hb.size |> Nat.le_trans hs, h.g.trans (q1A hb _), fun hd => ?_, fun hd => ?_, fun h2 h5 => ?_, ?_⟩
 ·exact (h.a (by simpa using hd)).past hb
 ·exact ho.lower hs
 ·have hlo := fun k hk => (World.ownsRow.lt ho k hk).1
  have hot := fun k hk => (World.ownsRow.lt (h.a (by simpa using h2)) k hk).2
  show ∀ k, (if 2 = 5 then v else vals 2).ownBlock = some k → (if 5 = 5 then v else vals 5).ownBlock ≠ some k
  simp only [if_true, show ¬ (2 = 5) by decide, if_false]
  intro k hk hk'
  have := hot k hk
  have := hlo k hk'
  omega
 ·have := q01 h.x hb
  simp only [stlCs] at this ⊢
  simp only [hst, Bool.false_or, show (7 == 5) = false from rfl, show (9 == 5) = false from rfl, Bool.or_false, show ¬ ((2 : Nat) = 5) by decide, if_false, Bool.false_eq_true] at this ⊢
  exact this
theorem AZ.st9 (h : AZ w0 S N0 c m done vals w) (hj : done 5 = true) (hi : done 9 = false) (hS : S < N0) :
  AZ w0 S N0 c m (fun j => done j || j == 9) (fun j => if j = 9 then undef else vals j) (w.setCell ⟨S, 5, none⟩ (vals 5)) := by
 refine ⟨by simpa [World.setCell] using h.s, h.g.trans (q08 w ⟨S, 5, none⟩ (vals 5)), fun hd => ?_, fun hd => ?_, fun h2 h5 => ?_, ?_⟩
 ·exact OwnI.far (h.a (by simpa using hd)) (by show S < N0; omega) _
 ·exact OwnI.far (h.s5 (by simpa using hd)) (by show S < N0; omega) _
 ·exact h.ap (by simpa using h2) (by simpa using h5)
 ·have := heap_setCell_same w S 5 _ _ (vals 5) h.x
  simp only [stlCs] at this ⊢
  rw [this]
  simp [hi]
end
set_option maxRecDepth 100000 in
set_option maxHeartbeats 8000000 in
theorem still_region {z0 z2 z3 z4 z5 z6 z7 z8 z9 z10 z11 : Value} (w0 : World) (S N0 : Nat) (c : Stt) (m : State) (X : Kept (w0.heap[S]? = some (.cells c.cs.toArray 36 (0, 0)))) (Hmem : RdAt w0 S c.mem m.mem) (Hstack : RdAt w0 S c.stack m.stack)
  (hml : m.mem.length ≤ 1000) (hsl : m.stack.length ≤ 1000) (hN : w0.heap.size = N0) (hS : S < N0) (Q : Exit → Act → World → Prop)
  (hQ : ∀ (u3 u4 u5 u6 u7 u8 u9 u10 : Value) (w' : World) (s2 s5 : Sl), OwnI w' N0 (.slice s2.A s2.n s2.c) m.mem → OwnI w' N0 (.slice s5.A s5.n s5.c) m.stack → (∀ k, (Value.slice s2.A s2.n s2.c).ownBlock = some k → (Value.slice s5.A s5.n s5.c).ownBlock ≠ some k) →
   w'.heap[S]? = some (.cells (Stt.cs { c with mem := s2, stack := s5 }).toArray 36 (0, 0)) → w0.grownBy w' (some S) → Q .normal ⟨#[z0, .pointer (some ⟨S, 0, none⟩), z2, u3, u4, u5, u6, u7, u8, u9, u10, z11], []⟩ w') :
  Code.wp Try.prog (regA 1) Q ⟨#[z0, .pointer (some ⟨S, 0, none⟩), z2, z3, z4, z5, z6, z7, z8, z9, z10, z11], []⟩ w0 := by
 conv => arg 2; whnf
 refine q19 (fun done vals w => AZ w0 S N0 c m done vals w) (S) (G := fun _ => True) (ts := [
   .is (Value.pointer (some ⟨S, 4, none⟩)),
   .is (.slice c.mem.A c.mem.n c.mem.c),
   .turns (fun v _ => True) (fun _ _ => True),
   .is (Value.pointer (some ⟨S, 5, none⟩)),
   .is (.slice c.stack.A c.stack.n c.stack.c),
   .turns (fun v _ => True) (fun _ _ => True),
   .is (Value.pointer (some ⟨S, 4, none⟩)),
   .sets (fun _ _ => True),
   .is (Value.pointer (some ⟨S, 5, none⟩)),
   .sets (fun _ _ => True)])
  (fin := []) (cs := [(2, 5), (2, 7), (2, 9), (5, 2), (5, 7), (5, 9), (7, 2), (7, 5), (7, 9), (9, 2), (9, 5), (9, 7)]) ?z0 ?zg (by kernel_rfl) rfl (by kernel_rfl) (by kernel_rfl)
  ⟨trivial, trivial, q07 _, trivial, trivial, q07 _, trivial, (fun _ _ _ _ _ => trivial), trivial, (fun _ _ _ _ _ => trivial), trivial⟩ (fun _ _ _ _ => trivial) ?cs (by omega) trivial
  ⟨?_, ?_, ?_, ?_, ?_, ?_, ?_, ?_, ?_, ?_, trivial⟩ ?_
 case z0 =>
  show _
  exact AZ.start X.out hN
 case zg =>
  intro i done vals w1 w2 v hti hni hZ hb
  have hz := hZ
  ·skip
   have hz : AZ w0 S N0 c m done vals w1 := hz
   have h2 : ¬ 2 = i := by rintro rfl; cases hti
   have h5 : ¬ 5 = i := by rintro rfl; cases hti
   have h7 : ¬ 7 = i := by rintro rfl; cases hti
   have h9 : ¬ 9 = i := by rintro rfl; cases hti
   exact hz.other h2 h5 h7 h9 hb hS
 case cs =>
  intro p hp v w1 w2 hG hR hE
  simp only [List.mem_cons, List.not_mem_nil, or_false] at hp
  rcases hp with rfl | rfl | rfl | rfl | rfl | rfl | rfl | rfl | rfl | rfl | rfl | rfl
  ·exact hR
  ·exact hR
  ·exact hR
  ·exact hR
  ·exact hR
  ·exact hR
  ·exact hR
  ·exact hR
  ·exact hR
  ·exact hR
  ·exact hR
  ·exact hR
 ·intro done vals w1 hB _ hZ hni hcl hdn _
  refine q02 rfl ?_ ⟨q04 rfl, noturn rfl⟩
  kernel_rfl
 ·intro done vals w1 hB _ hZ hni hcl hdn _
  have hz : AZ w0 S N0 c m done vals w1 := hZ
  have h9 := hcl 7 _ rfl (by kernel_rfl)
  refine q02 rfl ?_ ⟨q04 rfl, noturn rfl⟩
  exact q0A rfl (by kernel_rfl) (CellsAt.of_block hz.x 4 _ (by simp [stlCs, h9])) Try.underlying22 rfl
 ·intro done vals w1 hB _ hZ hni hcl hdn _
  have hz : AZ w0 S N0 c m done vals w1 := hZ
  refine q12 (f := 54) (args := #[.slice c.mem.A c.mem.n c.mem.c]) (w1 := w1) rfl (by kernel_rfl) ?_
  refine (clone_int_at c.mem.A c.mem.n c.mem.c m.mem w1 Hmem.n.symm (reads_below Hmem.r (q2A hz.g (by omega)) hN hS) (by have := Hmem.n; omega)).mono ?_
  rintro e1 w2 ⟨v2, rfl, ho, hb2⟩
  exact ⟨v2, rfl, q16 rfl trivial (hB.trans (hb2.mono (by have := hB.size; omega))) trivial hb2.size trivial, fun _ => hz.mk2 hni ho hb2 hS (hcl 7 _ rfl (by kernel_rfl))⟩
 ·intro done vals w1 hB _ hZ hni hcl hdn _
  refine q02 rfl ?_ ⟨q04 rfl, noturn rfl⟩
  kernel_rfl
 ·intro done vals w1 hB _ hZ hni hcl hdn _
  have hz : AZ w0 S N0 c m done vals w1 := hZ
  have h9 := hcl 9 _ rfl (by kernel_rfl)
  refine q02 rfl ?_ ⟨q04 rfl, noturn rfl⟩
  exact q0A rfl (by kernel_rfl) (CellsAt.of_block hz.x 5 _ (by simp [stlCs, h9])) Try.underlying22 rfl
 ·intro done vals w1 hB _ hZ hni hcl hdn _
  have hz : AZ w0 S N0 c m done vals w1 := hZ
  refine q12 (f := 54) (args := #[.slice c.stack.A c.stack.n c.stack.c]) (w1 := w1) rfl (by kernel_rfl) ?_
  refine (clone_int_at c.stack.A c.stack.n c.stack.c m.stack w1 Hstack.n.symm (reads_below Hstack.r (q2A hz.g (by omega)) hN hS) (by have := Hstack.n; omega)).mono ?_
  rintro e1 w2 ⟨v2, rfl, ho, hb2⟩
  exact ⟨v2, rfl, q16 rfl trivial (hB.trans (hb2.mono (by have := hB.size; omega))) trivial hb2.size trivial, fun _ => hz.mk5 hni ho hb2 hS (hcl 9 _ rfl (by kernel_rfl))⟩
 ·intro done vals w1 hB _ hZ hni hcl hdn _
  refine q02 rfl ?_ ⟨q04 rfl, noturn rfl⟩
  kernel_rfl
 ·intro done vals w1 hB _ hZ hni hcl hdn _
  have hz : AZ w0 S N0 c m done vals w1 := hZ
  have hj := hdn 2 (by kernel_rfl)
  obtain ⟨s, es, ho⟩ := hz.sl2 hj
  have hst := q08 w1 ⟨S, 4, none⟩ (vals 2)
  refine q14 (w' := w1.setCell ⟨S, 4, none⟩ (vals 2)) rfl ?_ ⟨q15 rfl (hB.setCell (Nat.le_refl _) _) trivial hst.size trivial, fun _ => hz.st7 hj hni hS⟩
  rw [q0D es]
  exact q13 rfl (by kernel_rfl) (by kernel_rfl) (q22 (CellsAt.of_block hz.x 4 _ rfl) (frozen_of_row w1 S 4 _ _ hz.x) (by kernel_rfl))
 ·intro done vals w1 hB _ hZ hni hcl hdn _
  refine q02 rfl ?_ ⟨q04 rfl, noturn rfl⟩
  kernel_rfl
 ·intro done vals w1 hB _ hZ hni hcl hdn _
  have hz : AZ w0 S N0 c m done vals w1 := hZ
  have hj := hdn 5 (by kernel_rfl)
  obtain ⟨s, es, ho⟩ := hz.sl5 hj
  have hst := q08 w1 ⟨S, 5, none⟩ (vals 5)
  refine q14 (w' := w1.setCell ⟨S, 5, none⟩ (vals 5)) rfl ?_ ⟨q15 rfl (hB.setCell (Nat.le_refl _) _) trivial hst.size trivial, fun _ => hz.st9 hj hni hS⟩
  rw [q0D es]
  exact q13 rfl (by kernel_rfl) (by kernel_rfl) (q22 (CellsAt.of_block hz.x 5 _ rfl) (frozen_of_row w1 S 5 _ _ hz.x) (by kernel_rfl))
 intro done vals w9 b9 _ hall hZ hr
 have hz : AZ w0 S N0 c m done vals w9 := hZ
 obtain ⟨s2, e2, o2⟩ := hz.sl2 (hall 2 (by simp))
 obtain ⟨s5, e5, o5⟩ := hz.sl5 (hall 5 (by simp))
 have hap := hz.ap (hall 2 (by simp)) (hall 5 (by simp))
 have hx := hz.x
 simp only [stlCs, hall 7 (by simp), hall 9 (by simp), if_true] at hx
 clear hr
 simp only [fillT, Tell.is, Tell.turns, Act.put, List.setIfInBounds_toArray, List.set_cons_zero, List.set_cons_succ]
 rw [e2, e5] at hap hx
 exact hQ _ _ _ _ _ _ _ _ w9 s2 s5 o2 o5 hap hx hz.g
theorem RdIs.at_ {w : World} {s : Sl} {l : List Int} {S : Nat} (h : RdIs w s l) (hS : w.heap.size = S) {w' : World} (hb : Below S w w') : RdAt w' S s l := by
 subst hS
 exact ⟨h.n, Reads.below h.r hb⟩
theorem dj_of_own {A A' : Option Addr} {n n' c c' : Nat} (h : ∀ k, (Value.slice A n c).ownBlock = some k → (Value.slice A' n' c').ownBlock ≠ some k) : Dj (.slice A n c) (.slice A' n' c') := by
 intro k hk hk'
 exact h k (by simpa [blocksOf] using hk) (by simpa [blocksOf] using hk')
theorem own_ne {w : World} {B g : Nat} {e : TypeId} {size : Nat} {v : Value} {n : Nat} {xs : List Value} (h : w.ownsRow B e size v n xs) (hg : g < B) : v.ownBlock = none ∨ v.ownBlock ≠ some g := by
 cases hv : v.ownBlock with
 | none => exact .inl rfl
 | some k => exact .inr (fun e => by injection e with e; have := (World.ownsRow.lt h k hv).1; omega)
set_option maxRecDepth 100000 in
set_option maxHeartbeats 2000000 in
theorem astill_any (c : Stt) (m : State) (w : World) (hc : StIs w c m) (hml : m.mem.length ≤ 1000) (hsl : m.stack.length ≤ 1000) :
  Calls Try.prog 85 #[c.v] w fun en w' => ∃ c' : Stt, en = .returned c'.v ∧ StOwn w' w.heap.size c' m ∧ Below w.heap.size w w' := by
 have HC := Kept.mk hc
 obtain ⟨r0, r1, r2, r3, ⟨mA, mN, mC⟩, ⟨sA, sN, sC⟩, pc⟩ := c
 clear hc
 go_enter Try.func85, Try.ntmps85
 go_wp2_with fail
 have bb := (q00 w (.cells #[.int .i64 r0, .int .i64 r1, .int .i64 r2, .int .i64 r3, .slice mA mN mC, .slice sA sN sC, .int .i64 pc] 36)).alloc (by simp) (.cells #[.int .i64 0, .int .i64 0, .int .i64 0, .int .i64 0, .slice none 0 0, .slice none 0 0, .int .i64 0] 36)
 have X1 := Kept.mk ((heap_alloc_old (w.alloc (.cells #[.int .i64 r0, .int .i64 r1, .int .i64 r2, .int .i64 r3, .slice mA mN mC, .slice sA sN sC, .int .i64 pc] 36)) (.cells #[.int .i64 0, .int .i64 0, .int .i64 0, .int .i64 0, .slice none 0 0, .slice none 0 0, .int .i64 0] 36) (by simp)).trans (heap_alloc_new w (.cells #[.int .i64 r0, .int .i64 r1, .int .i64 r2, .int .i64 r3, .slice mA mN mC, .slice sA sN sC, .int .i64 pc] 36)))
 have X2 := Kept.mk (heap_alloc2_new w (.cells #[.int .i64 r0, .int .i64 r1, .int .i64 r2, .int .i64 r3, .slice mA mN mC, .slice sA sN sC, .int .i64 pc] 36) (.cells #[.int .i64 0, .int .i64 0, .int .i64 0, .int .i64 0, .slice none 0 0, .slice none 0 0, .int .i64 0] 36))
 have SZ : ((w.alloc (.cells #[.int .i64 r0, .int .i64 r1, .int .i64 r2, .int .i64 r3, .slice mA mN mC, .slice sA sN sC, .int .i64 pc] 36)).alloc (.cells #[.int .i64 0, .int .i64 0, .int .i64 0, .int .i64 0, .slice none 0 0, .slice none 0 0, .int .i64 0] 36)).heap.size = w.heap.size + 2 := by simp
 have W2 := Kept.mk bb
 have RM := HC.out.mem.at_ rfl bb
 have RS := HC.out.stack.at_ rfl bb
 clear bb
 generalize (w.alloc (.cells #[.int .i64 r0, .int .i64 r1, .int .i64 r2, .int .i64 r3, .slice mA mN mC, .slice sA sN sC, .int .i64 pc] 36)).alloc (.cells #[.int .i64 0, .int .i64 0, .int .i64 0, .int .i64 0, .slice none 0 0, .slice none 0 0, .int .i64 0] 36) = w2 at *
 refine still_region w2 w.heap.size (w.heap.size + 2) ⟨r0, r1, r2, r3, ⟨mA, mN, mC⟩, ⟨sA, sN, sC⟩, pc⟩ m X1 RM RS hml hsl SZ (by omega) _ ?_
 intros
 rename_i w9 a2 a5 o2 o5 hap hx9 hg9
 obtain ⟨eA, eN, eC⟩ := a2
 obtain ⟨fA, fN, fC⟩ := a5
 have O2 := Kept.mk o2
 have O5 := Kept.mk o5
 have AP := Kept.mk hap
 have K2 := Kept.mk ((hg9.block (w.heap.size + 1) (by omega) (by intro h; injection h with h; omega)).trans X2.out)
 have W9 := Kept.mk (W2.out.trans (q2A hg9 (by omega)))
 have Y1 := fun j => cell_of_row w9 w.heap.size j _ _ _ hx9
 have Y2 := fun j => cell_of_row w9 (w.heap.size + 1) j _ _ _ K2.out
 have F2 := fun j => frozen_of_row w9 (w.heap.size + 1) j _ _ K2.out
 simp only [Stt.cs] at Y1
 clear o2 o5 hap hx9 hg9 X1 X2 W2 RM RS
 go_wp2_with fail
 have x4 := stt_set0 (w := w9) (g := w.heap.size + 1) ⟨0, 0, 0, 0, Sl.none, Sl.none, 0⟩ ⟨r0, r1, r2, r3, ⟨eA, eN, eC⟩, ⟨fA, fN, fC⟩, pc⟩ K2.out
 have hg := grown7 w9 (w.heap.size + 1) ⟨r0, r1, r2, r3, ⟨eA, eN, eC⟩, ⟨fA, fN, fC⟩, pc⟩
 have wb := below7 (g := w.heap.size + 1) ⟨r0, r1, r2, r3, ⟨eA, eN, eC⟩, ⟨fA, fN, fC⟩, pc⟩ W9.out (by omega)
 have om := World.ownsRow.kept O2.out hg (own_ne O2.out (show w.heap.size + 1 < w.heap.size + 2 by omega))
 have os := World.ownsRow.kept O5.out hg (own_ne O5.out (show w.heap.size + 1 < w.heap.size + 2 by omega))
 dsimp only at x4 wb om os
 refine q0C _ [Stt.v ⟨r0, r1, r2, r3, ⟨eA, eN, eC⟩, ⟨fA, fN, fC⟩, pc⟩] Try.results85 (.cons (.cell (cs := Stt.cs ⟨r0, r1, r2, r3, ⟨eA, eN, eC⟩, ⟨fA, fN, fC⟩, pc⟩) (b := w.heap.size + 1) (off := 0) rfl rfl (q05 x4) Try.underlying36 rfl (by kernel_rfl)) .nil) rfl ?_
 exact ⟨⟨r0, r1, r2, r3, ⟨eA, eN, eC⟩, ⟨fA, fN, fC⟩, pc⟩, rfl, ⟨HC.out.r0, HC.out.r1, HC.out.r2, HC.out.r3, own_lower om (by omega), own_lower os (by omega), HC.out.pc, dj_of_own AP.out⟩, wb⟩
end
end Go.Proofs.Ytchldbkjapnlcaa
