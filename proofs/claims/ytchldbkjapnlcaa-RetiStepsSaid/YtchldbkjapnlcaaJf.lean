/- The document's own answer, layer 16: the region that clones what is committed. -/
import Derived.Test.YtchldbkjapnlcaaJFet
set_option linter.unusedVariables false
set_option linter.unusedSimpArgs false
namespace Go.Proofs.Ytchldbkjapnlcaa
open Go.RowKit
section
noncomputable def regR (id : Nat) : Code := (Try.f35.body.bind (findRegion id)).getD .skip
def rowV (done : Nat → Bool) (vals : Nat → Value) (i j : Nat) : Value := if done j = true then vals j else if done i = true then vals i else .slice none 0 0
def rowL (done : Nat → Bool) (j : Nat) (l : List Int) : List Int := if done j = true then l else []
def retCs (st : Stt) (done : Nat → Bool) (vals : Nat → Value) : List Value := [.int .i64 st.r0, .int .i64 st.r1, .int .i64 st.r2, .int .i64 st.r3, (if done 9 = true then vals 3 else .slice st.mem.A st.mem.n st.mem.c), (if done 11 = true then vals 7 else .slice st.stack.A st.stack.n st.stack.c), .int .i64 st.pc]
structure RZ (w0 : World) (S8 N0 : Nat) (st : Stt) (mem stack : List Int) (done : Nat → Bool) (vals : Nat → Value) (w : World) : Prop where
 n : w0.heap.size = N0
 g : w0.grownBy w (some S8)
 a : OwnI w N0 (rowV done vals 0 3) (rowL done 3 mem)
 b : OwnI w N0 (rowV done vals 4 7) (rowL done 7 stack)
 ap : ∀ g, (rowV done vals 0 3).ownBlock = some g → (rowV done vals 4 7).ownBlock ≠ some g
 x : w.heap[S8]? = some (.cells (retCs st done vals).toArray 36 (0, 0))
section
variable {w0 w : World} {S8 N0 : Nat} {st : Stt} {mem stack : List Int} {done : Nat → Bool} {vals : Nat → Value}
theorem RZ.start (h : w0.heap[S8]? = some (.cells st.cs.toArray 36 (0, 0))) (hN : w0.heap.size = N0) : RZ w0 S8 N0 st mem stack (fun _ => false) (fun _ => undef) w0.drew := by
 refine ⟨hN, q1A (Below.refl _ _).drew _, ?_, ?_, ?_, ?_⟩
 ·simpa [rowV, rowL] using OwnI.nil
 ·simpa [rowV, rowL] using OwnI.nil
 ·intro g e
  simp [rowV] at e
  cases e
 ·have h2 : w0.drew.heap[S8]? = some (.cells st.cs.toArray 36 (0, 0)) := h
  simpa [retCs, Stt.cs] using h2
theorem RZ.other {i : Nat} {v : Value} {w' : World} (h : RZ w0 S8 N0 st mem stack done vals w) (h0 : ¬ 0 = i) (h3 : ¬ 3 = i) (h4 : ¬ 4 = i) (h7 : ¬ 7 = i) (h9 : ¬ 9 = i) (h11 : ¬ 11 = i) (hb : Below w.heap.size w w') :
  RZ w0 S8 N0 st mem stack (fun j => done j || j == i) (fun j => if j = i then v else vals j) w' := by
 have e : ∀ k, ¬ k = i → (done k || k == i) = done k := fun k hk => by rw [show (k == i) = false by simpa using hk, Bool.or_false]
 have f : ∀ a b, ¬ a = i → ¬ b = i → rowV (fun j => done j || j == i) (fun j => if j = i then v else vals j) a b = rowV done vals a b := fun a b ha hb => by
  simp only [rowV, e a ha, e b hb, if_neg ha, if_neg hb]
 refine ⟨h.n, h.g.trans (q1A hb _), ?_, ?_, ?_, ?_⟩
 ·rw [f 0 3 h0 h3, rowL, e 3 h3]
  exact h.a.past hb
 ·rw [f 4 7 h4 h7, rowL, e 7 h7]
  exact h.b.past hb
 ·rw [f 0 3 h0 h3, f 4 7 h4 h7]
  exact h.ap
 ·have := q01 h.x hb
  simp only [retCs, e 9 h9, e 11 h11, if_neg h3, if_neg h7] at this ⊢
  exact this
theorem RZ.own0 (h : RZ w0 S8 N0 st mem stack done vals w) (hi : done 0 = true) (hj : done 3 = false) : OwnI w N0 (vals 0) [] := by
 have := h.a
 simpa [rowV, rowL, hi, hj] using this
theorem RZ.done3 (h : RZ w0 S8 N0 st mem stack done vals w) (hj : done 3 = true) : OwnI w N0 (vals 3) mem := by
 have := h.a
 simpa [rowV, rowL, hj] using this
theorem RZ.new0 (h : RZ w0 S8 N0 st mem stack done vals w) (h0 : done 0 = false) (hj : done 3 = false) :
  RZ w0 S8 N0 st mem stack (fun j => done j || j == 0) (fun j => if j = 0 then .slice (some ⟨w.heap.size, 0, none⟩) 0 0 else vals j) (w.alloc (.cells #[] 3)) := by
 have hb := q00 w (.cells #[] 3)
 have hN : N0 ≤ w.heap.size := by have := h.g.size; have := h.n; omega
 have h1 := h.b.past hb
 have h2 : OwnI (w.alloc (.cells #[] 3)) N0 (.slice (some ⟨w.heap.size, 0, none⟩) 0 0) [] := OwnI.made hN
 have hlt := fun k hk => (World.ownsRow.lt h.b k hk).2
 refine ⟨h.n, h.g.trans (q1A hb _), ?_, ?_, ?_, ?_⟩
 ·simpa [rowV, rowL, hj] using h2
 ·simpa [rowV, rowL, hj] using h1
 ·intro g e1 e2
  simp [rowV, hj] at e1 e2
  have e1 : some w.heap.size = some g := e1
  injection e1 with e
  have := hlt g (by simpa [rowV] using e2)
  omega
 ·have := q01 h.x hb
  simpa [retCs] using this
theorem RZ.app3 {v : Value} {w' : World} (h : RZ w0 S8 N0 st mem stack done vals w) (hi : done 0 = true) (hj : done 3 = false) (hs : done 9 = false) (ho : OwnI w' N0 v mem) (hg : w.grownBy w' (vals 0).ownBlock)
  (hl : v.ownBlock = (vals 0).ownBlock ∨ v.ownBlock = some w.heap.size) (h8 : S8 < N0) (hN : N0 ≤ w.heap.size) :
  RZ w0 S8 N0 st mem stack (fun j => done j || j == 3) (fun j => if j = 3 then v else vals j) w' := by
 have hlt := fun k hk => World.ownsRow.lt (h.own0 hi hj) k hk
 have hlo := fun k hk => (World.ownsRow.lt h.b k hk).2
 have hap := h.ap
 simp only [rowV, hi, hj, if_true, Bool.false_eq_true, if_false] at hap
 have hfar : ∀ k, (rowV done vals 4 7).ownBlock = some k → (vals 0).ownBlock ≠ some k := fun k e1 e2 => by
  simp only [rowV] at e1
  exact hap k e2 e1
 have h1 : OwnI w' N0 (rowV done vals 4 7) (rowL done 7 stack) := World.ownsRow.kept h.b hg (by
  cases hv : (rowV done vals 4 7).ownBlock with
  | none => exact .inl rfl
  | some k => exact .inr (fun e => hfar k hv e.symm))
 refine ⟨h.n, grown_new h.g hg (fun k hk => Nat.le_trans (Nat.le_of_eq h.n) (hlt k hk).1), ?_, ?_, ?_, ?_⟩
 ·simpa [rowV, rowL] using ho
 ·simpa [rowV, rowL] using h1
 ·intro g e1 e2
  have e1 : v.ownBlock = some g := by simpa [rowV] using e1
  have e2 : (rowV done vals 4 7).ownBlock = some g := by simpa [rowV] using e2
  rcases hl with hl | hl
  ·exact hfar g e2 (hl.symm.trans e1)
  ·have := hlo g e2
   have e := hl.symm.trans e1
   injection e with e
   omega
 ·have := (hg.block S8 (Array.getElem?_eq_some_iff.1 h.x).1 (fun e => by have := (hlt S8 e.symm).1; omega)).trans h.x
  simpa [retCs, hs] using this
theorem RZ.st9 {s : Sl} (h : RZ w0 S8 N0 st mem stack done vals w) (hj : done 3 = true) (hs : done 9 = false) (es : vals 3 = .slice s.A s.n s.c) (h8 : S8 < N0) :
  RZ w0 S8 N0 st mem stack (fun j => done j || j == 9) (fun j => if j = 9 then undef else vals j) (w.setCell ⟨S8, 4, none⟩ (.slice s.A s.n s.c)) := by
 have hst := q08 w ⟨S8, 4, none⟩ (.slice s.A s.n s.c)
 have hk : ∀ {v : Value} {l : List Int}, OwnI w N0 v l → OwnI (w.setCell ⟨S8, 4, none⟩ (.slice s.A s.n s.c)) N0 v l := fun {v l} hv => World.ownsRow.kept hv hst (by
  cases he : v.ownBlock with
  | none => exact .inl rfl
  | some k => exact .inr (fun e => by injection e with e; have e : k = S8 := e; have := (World.ownsRow.lt hv k he).1; omega))
 refine ⟨h.n, h.g.trans hst, ?_, ?_, ?_, ?_⟩
 ·simpa [rowV, rowL] using hk h.a
 ·simpa [rowV, rowL] using hk h.b
 ·simpa [rowV] using h.ap
 ·have := heap_setCell_same w S8 4 _ _ (.slice s.A s.n s.c) h.x
  simpa [retCs, hs, es] using this
theorem RZ.own4 (h : RZ w0 S8 N0 st mem stack done vals w) (hi : done 4 = true) (hj : done 7 = false) : OwnI w N0 (vals 4) [] := by
 have := h.b
 simpa [rowV, rowL, hi, hj] using this
theorem RZ.done7 (h : RZ w0 S8 N0 st mem stack done vals w) (hj : done 7 = true) : OwnI w N0 (vals 7) stack := by
 have := h.b
 simpa [rowV, rowL, hj] using this
theorem RZ.new4 (h : RZ w0 S8 N0 st mem stack done vals w) (h0 : done 4 = false) (hj : done 7 = false) :
  RZ w0 S8 N0 st mem stack (fun j => done j || j == 4) (fun j => if j = 4 then .slice (some ⟨w.heap.size, 0, none⟩) 0 0 else vals j) (w.alloc (.cells #[] 3)) := by
 have hb := q00 w (.cells #[] 3)
 have hN : N0 ≤ w.heap.size := by have := h.g.size; have := h.n; omega
 have h1 := h.a.past hb
 have h2 : OwnI (w.alloc (.cells #[] 3)) N0 (.slice (some ⟨w.heap.size, 0, none⟩) 0 0) [] := OwnI.made hN
 have hlt := fun k hk => (World.ownsRow.lt h.a k hk).2
 refine ⟨h.n, h.g.trans (q1A hb _), ?_, ?_, ?_, ?_⟩
 ·simpa [rowV, rowL, hj] using h1
 ·simpa [rowV, rowL, hj] using h2
 ·intro g e1 e2
  simp [rowV, hj] at e1 e2
  have e2 : some w.heap.size = some g := e2
  injection e2 with e
  have := hlt g (by simpa [rowV] using e1)
  omega
 ·have := q01 h.x hb
  simpa [retCs] using this
theorem RZ.app7 {v : Value} {w' : World} (h : RZ w0 S8 N0 st mem stack done vals w) (hi : done 4 = true) (hj : done 7 = false) (hs : done 11 = false) (ho : OwnI w' N0 v stack) (hg : w.grownBy w' (vals 4).ownBlock)
  (hl : v.ownBlock = (vals 4).ownBlock ∨ v.ownBlock = some w.heap.size) (h8 : S8 < N0) (hN : N0 ≤ w.heap.size) :
  RZ w0 S8 N0 st mem stack (fun j => done j || j == 7) (fun j => if j = 7 then v else vals j) w' := by
 have hlt := fun k hk => World.ownsRow.lt (h.own4 hi hj) k hk
 have hlo := fun k hk => (World.ownsRow.lt h.a k hk).2
 have hap := h.ap
 simp only [rowV, hi, hj, if_true, Bool.false_eq_true, if_false] at hap
 have hfar : ∀ k, (rowV done vals 0 3).ownBlock = some k → (vals 4).ownBlock ≠ some k := fun k e1 e2 => by
  simp only [rowV] at e1
  exact hap k e1 e2
 have h1 : OwnI w' N0 (rowV done vals 0 3) (rowL done 3 mem) := World.ownsRow.kept h.a hg (by
  cases hv : (rowV done vals 0 3).ownBlock with
  | none => exact .inl rfl
  | some k => exact .inr (fun e => hfar k hv e.symm))
 refine ⟨h.n, grown_new h.g hg (fun k hk => Nat.le_trans (Nat.le_of_eq h.n) (hlt k hk).1), ?_, ?_, ?_, ?_⟩
 ·simpa [rowV, rowL] using h1
 ·simpa [rowV, rowL] using ho
 ·intro g e1 e2
  have e1 : (rowV done vals 0 3).ownBlock = some g := by simpa [rowV] using e1
  have e2 : v.ownBlock = some g := by simpa [rowV] using e2
  rcases hl with hl | hl
  ·exact hfar g e1 (hl.symm.trans e2)
  ·have := hlo g e1
   have e := hl.symm.trans e2
   injection e with e
   omega
 ·have := (hg.block S8 (Array.getElem?_eq_some_iff.1 h.x).1 (fun e => by have := (hlt S8 e.symm).1; omega)).trans h.x
  simpa [retCs, hs] using this
theorem RZ.st11 {s : Sl} (h : RZ w0 S8 N0 st mem stack done vals w) (hj : done 7 = true) (hs : done 11 = false) (es : vals 7 = .slice s.A s.n s.c) (h8 : S8 < N0) :
  RZ w0 S8 N0 st mem stack (fun j => done j || j == 11) (fun j => if j = 11 then undef else vals j) (w.setCell ⟨S8, 5, none⟩ (.slice s.A s.n s.c)) := by
 have hst := q08 w ⟨S8, 5, none⟩ (.slice s.A s.n s.c)
 have hk : ∀ {v : Value} {l : List Int}, OwnI w N0 v l → OwnI (w.setCell ⟨S8, 5, none⟩ (.slice s.A s.n s.c)) N0 v l := fun {v l} hv => World.ownsRow.kept hv hst (by
  cases he : v.ownBlock with
  | none => exact .inl rfl
  | some k => exact .inr (fun e => by injection e with e; have e : k = S8 := e; have := (World.ownsRow.lt hv k he).1; omega))
 refine ⟨h.n, h.g.trans hst, ?_, ?_, ?_, ?_⟩
 ·simpa [rowV, rowL] using hk h.a
 ·simpa [rowV, rowL] using hk h.b
 ·simpa [rowV] using h.ap
 ·have := heap_setCell_same w S8 5 _ _ (.slice s.A s.n s.c) h.x
  simpa [retCs, hs, es] using this
end
set_option maxRecDepth 100000 in
set_option maxHeartbeats 8000000 in
theorem retire_clone {z0 z1 z2 z3 z4 z5 z6 z7 z9 z10 z11 z12 z13 z14 z15 z16 z17 z18 z19 z20 z21 z22 z23 z24 z25 z26 z27 z28 z29 z30 z31 z32 z33 z34 z35 z36 z37 z38 z39 z40 z41 z42 z43 z44 z45 z46 z47 z48 z49 z50 z51 z52 z53 z54 z55 z56 z57 z58 z59 z60 z61 z62 z63 z64 z65 z66 z67 z68 z69 z70 z71 z72 z73 z74 z75 z76 z77 z78 z79 z80 z81 z82 z83 z84 z85 z86 z87 z88 z89 z90 z91 z92 z93 z94 z95 z96 z97 z98 z99 z100 z101 z102 z103 z104 z105 z106 z107 z108 z109 z110 z111 z112 z113 z114 z115 z116 z117 z118 : Value} (w0 : World) (S8 N0 : Nat) (st : Stt) (mem stack : List Int) (X8 : Kept (w0.heap[S8]? = some (.cells st.cs.toArray 36 (0, 0))))
  (HM : Kept (RdI w0 st.mem.A mem)) (HMN : Kept (st.mem.n = mem.length)) (HMO : Kept (0 < mem.length → ∀ ad, st.mem.A = some ad → ad.block ≠ S8))
  (HS : Kept (RdI w0 st.stack.A stack)) (HSN : Kept (st.stack.n = stack.length)) (HSO : Kept (0 < stack.length → ∀ ad, st.stack.A = some ad → ad.block ≠ S8))
  (hml : mem.length ≤ 1000) (hsl : stack.length ≤ 1000) (hN : w0.heap.size = N0) (h8 : S8 < N0) (Q : Exit → Act → World → Prop)
  (hQ : ∀ (u28 u29 u30 u31 u32 u33 u34 u35 u36 u37 : Value) (w' : World) (sM sS : Sl), OwnI w' N0 (.slice sM.A sM.n sM.c) mem → OwnI w' N0 (.slice sS.A sS.n sS.c) stack → (∀ g, (Value.slice sM.A sM.n sM.c).ownBlock = some g → (Value.slice sS.A sS.n sS.c).ownBlock ≠ some g) →
   w'.heap[S8]? = some (.cells (Stt.cs { st with mem := sM, stack := sS }).toArray 36 (0, 0)) → w0.grownBy w' (some S8) → Q .normal ⟨#[z0, z1, z2, z3, z4, z5, z6, z7, .pointer (some ⟨S8, 0, none⟩), z9, z10, z11, z12, z13, z14, z15, z16, z17, z18, z19, z20, z21, z22, z23, z24, z25, z26, z27, u28, u29, u30, u31, u32, u33, u34, u35, u36, u37, z38, z39, z40, z41, z42, z43, z44, z45, z46, z47, z48, z49, z50, z51, z52, z53, z54, z55, z56, z57, z58, z59, z60, z61, z62, z63, z64, z65, z66, z67, z68, z69, z70, z71, z72, z73, z74, z75, z76, z77, z78, z79, z80, z81, z82, z83, z84, z85, z86, z87, z88, z89, z90, z91, z92, z93, z94, z95, z96, z97, z98, z99, z100, z101, z102, z103, z104, z105, z106, z107, z108, z109, z110, z111, z112, z113, z114, z115, z116, z117, z118], []⟩ w') :
  Code.wp Try.prog (regR 7) Q ⟨#[z0, z1, z2, z3, z4, z5, z6, z7, .pointer (some ⟨S8, 0, none⟩), z9, z10, z11, z12, z13, z14, z15, z16, z17, z18, z19, z20, z21, z22, z23, z24, z25, z26, z27, z28, z29, z30, z31, z32, z33, z34, z35, z36, z37, z38, z39, z40, z41, z42, z43, z44, z45, z46, z47, z48, z49, z50, z51, z52, z53, z54, z55, z56, z57, z58, z59, z60, z61, z62, z63, z64, z65, z66, z67, z68, z69, z70, z71, z72, z73, z74, z75, z76, z77, z78, z79, z80, z81, z82, z83, z84, z85, z86, z87, z88, z89, z90, z91, z92, z93, z94, z95, z96, z97, z98, z99, z100, z101, z102, z103, z104, z105, z106, z107, z108, z109, z110, z111, z112, z113, z114, z115, z116, z117, z118], []⟩ w0 := by
 have HMNL : st.mem.n ≤ 1000 := by have := HMN.out; omega
 have HSNL : st.stack.n ≤ 1000 := by have := HSN.out; omega
 conv => arg 2; whnf
 refine q19 (fun done vals w => RZ w0 S8 N0 st mem stack done vals w) (S8) (G := fun _ => True) (ts := [
   .turns (fun v _ => True) (fun _ _ => True),
   .is (Value.pointer (some ⟨S8, 4, none⟩)),
   .is (.slice st.mem.A st.mem.n st.mem.c),
   .turns (fun v _ => True) (fun _ _ => True),
   .turns (fun v _ => True) (fun _ _ => True),
   .is (Value.pointer (some ⟨S8, 5, none⟩)),
   .is (.slice st.stack.A st.stack.n st.stack.c),
   .turns (fun v _ => True) (fun _ _ => True),
   .is (Value.pointer (some ⟨S8, 4, none⟩)),
   .sets (fun _ _ => True),
   .is (Value.pointer (some ⟨S8, 5, none⟩)),
   .sets (fun _ _ => True)])
  (fin := []) (cs := [(0, 3), (0, 4), (0, 7), (0, 9), (0, 11), (3, 0), (3, 4), (3, 7), (3, 9), (3, 11), (4, 0), (4, 3), (4, 7), (4, 9), (4, 11), (7, 0), (7, 3), (7, 4), (7, 9), (7, 11), (9, 0), (9, 3), (9, 4), (9, 7), (9, 11), (11, 0), (11, 3), (11, 4), (11, 7), (11, 9)]) ?z0 ?zg (by kernel_rfl) rfl (by kernel_rfl) (by kernel_rfl)
  ⟨q07 _, trivial, trivial, q07 _, q07 _, trivial, trivial, q07 _, trivial, (fun _ _ _ _ _ => trivial), trivial, (fun _ _ _ _ _ => trivial), trivial⟩ (fun _ _ _ _ => trivial) ?cs (by omega) trivial
  ⟨?_, ?_, ?_, ?_, ?_, ?_, ?_, ?_, ?_, ?_, ?_, ?_, trivial⟩ ?_
 case z0 =>
  show _
  exact RZ.start X8.out (by omega)
 case zg =>
  intro i done vals w1 w2 v hti hni hZ hb
  have hz := hZ
  ·skip
   have hz : RZ w0 S8 N0 st mem stack done vals w1 := hz
   have h0 : ¬ 0 = i := by rintro rfl; cases hti
   have h3 : ¬ 3 = i := by rintro rfl; cases hti
   have h4 : ¬ 4 = i := by rintro rfl; cases hti
   have h7 : ¬ 7 = i := by rintro rfl; cases hti
   have h9 : ¬ 9 = i := by rintro rfl; cases hti
   have h11 : ¬ 11 = i := by rintro rfl; cases hti
   exact hz.other h0 h3 h4 h7 h9 h11 hb
 case cs =>
  intro p hp v w1 w2 hG hR hE
  simp only [List.mem_cons, List.not_mem_nil, or_false] at hp
  rcases hp with rfl | rfl | rfl | rfl | rfl | rfl | rfl | rfl | rfl | rfl | rfl | rfl | rfl | rfl | rfl | rfl | rfl | rfl | rfl | rfl | rfl | rfl | rfl | rfl | rfl | rfl | rfl | rfl | rfl | rfl
  ·exact hR
  ·exact hR
  ·exact hR
  ·exact hR
  ·exact hR
  ·exact hR
  ·exact hR
  ·exact hR
  ·exact hR
  ·exact hR
  ·exact hR
  ·exact hR
  ·exact hR
  ·exact hR
  ·exact hR
  ·exact hR
  ·exact hR
  ·exact hR
  ·exact hR
  ·exact hR
  ·exact hR
  ·exact hR
  ·exact hR
  ·exact hR
  ·exact hR
  ·exact hR
  ·exact hR
  ·exact hR
  ·exact hR
  ·exact hR
 ·intro done vals w1 hB _ hZ hni hcl hdn _
  have hz : RZ w0 S8 N0 st mem stack done vals w1 := hZ
  have hk := hcl 3 _ rfl (by kernel_rfl)
  refine q1D (v := .slice (some ⟨w1.heap.size, 0, none⟩) 0 0) (w' := w1.alloc (.cells #[] 3)) rfl (by kernel_rfl) ⟨q16 rfl trivial (hB.trans ((q00 _ _).mono (by have := hB.size; omega))) trivial (by simp) trivial, fun _ => ?_⟩
  exact hz.new0 hni hk
 ·intro done vals w1 hB _ hZ hni hcl hdn _
  refine q02 rfl ?_ ⟨q04 rfl, noturn rfl⟩
  kernel_rfl
 ·intro done vals w1 hB _ hZ hni hcl hdn _
  have hz : RZ w0 S8 N0 st mem stack done vals w1 := hZ
  have h9 := hcl 9 _ rfl (by kernel_rfl)
  refine q02 rfl ?_ ⟨q04 rfl, noturn rfl⟩
  exact q0A rfl (by kernel_rfl) (CellsAt.of_block hz.x 4 _ (by simp [retCs, h9])) Try.underlying22 rfl
 ·intro done vals w1 hB _ hZ hni hcl hdn _
  have hz : RZ w0 S8 N0 st mem stack done vals w1 := hZ
  have hi := hdn 0 (by kernel_rfl)
  have h9 := hcl 9 _ rfl (by kernel_rfl)
  have hrd : RdI w1 st.mem.A mem := reads_grown HM.out hz.g HMO.out
  have hsz : N0 ≤ w1.heap.size := by have := hz.g.size; omega
  refine q36 rfl (.tmp 28) (.tmp 30) _ rfl N0 _ _ 1 8 Try.underlying22 q2C rfl (by omega) (v := vals 0) (by kernel_rfl) (hz.own0 hi hni) (A := st.mem.A) (m := st.mem.n) (c := st.mem.c) (by kernel_rfl) (by rw [HMN.out]; exact hrd) (q28 mem) (by simp only [maxLen, List.length_nil]; omega) (by simp only [List.length_nil]; omega) hsz ?_
  intro v2 w2 h1 h2 h3
  have h1 : OwnI w2 N0 v2 mem := by
   unfold OwnI
   rw [HMN.out, List.length_nil, Nat.zero_add] at h1
   exact h1
  have hlt := fun k hk => (World.ownsRow.lt (hz.own0 hi hni) k hk).1
  exact ⟨q16 rfl trivial (hB.grown h2 (by omega) (fun k hk => by have := hlt k hk; omega)) trivial h2.size trivial, fun _ => hz.app3 hi hni h9 h1 h2 h3 (by omega) (by omega)⟩
 ·intro done vals w1 hB _ hZ hni hcl hdn _
  have hz : RZ w0 S8 N0 st mem stack done vals w1 := hZ
  have hk := hcl 7 _ rfl (by kernel_rfl)
  refine q1D (v := .slice (some ⟨w1.heap.size, 0, none⟩) 0 0) (w' := w1.alloc (.cells #[] 3)) rfl (by kernel_rfl) ⟨q16 rfl trivial (hB.trans ((q00 _ _).mono (by have := hB.size; omega))) trivial (by simp) trivial, fun _ => ?_⟩
  exact hz.new4 hni hk
 ·intro done vals w1 hB _ hZ hni hcl hdn _
  refine q02 rfl ?_ ⟨q04 rfl, noturn rfl⟩
  kernel_rfl
 ·intro done vals w1 hB _ hZ hni hcl hdn _
  have hz : RZ w0 S8 N0 st mem stack done vals w1 := hZ
  have h9 := hcl 11 _ rfl (by kernel_rfl)
  refine q02 rfl ?_ ⟨q04 rfl, noturn rfl⟩
  exact q0A rfl (by kernel_rfl) (CellsAt.of_block hz.x 5 _ (by simp [retCs, h9])) Try.underlying22 rfl
 ·intro done vals w1 hB _ hZ hni hcl hdn _
  have hz : RZ w0 S8 N0 st mem stack done vals w1 := hZ
  have hi := hdn 4 (by kernel_rfl)
  have h9 := hcl 11 _ rfl (by kernel_rfl)
  have hrd : RdI w1 st.stack.A stack := reads_grown HS.out hz.g HSO.out
  have hsz : N0 ≤ w1.heap.size := by have := hz.g.size; omega
  refine q36 rfl (.tmp 32) (.tmp 34) _ rfl N0 _ _ 1 8 Try.underlying22 q2C rfl (by omega) (v := vals 4) (by kernel_rfl) (hz.own4 hi hni) (A := st.stack.A) (m := st.stack.n) (c := st.stack.c) (by kernel_rfl) (by rw [HSN.out]; exact hrd) (q28 stack) (by simp only [maxLen, List.length_nil]; omega) (by simp only [List.length_nil]; omega) hsz ?_
  intro v2 w2 h1 h2 h3
  have h1 : OwnI w2 N0 v2 stack := by
   unfold OwnI
   rw [HSN.out, List.length_nil, Nat.zero_add] at h1
   exact h1
  have hlt := fun k hk => (World.ownsRow.lt (hz.own4 hi hni) k hk).1
  exact ⟨q16 rfl trivial (hB.grown h2 (by omega) (fun k hk => by have := hlt k hk; omega)) trivial h2.size trivial, fun _ => hz.app7 hi hni h9 h1 h2 h3 (by omega) (by omega)⟩
 ·intro done vals w1 hB _ hZ hni hcl hdn _
  refine q02 rfl ?_ ⟨q04 rfl, noturn rfl⟩
  kernel_rfl
 ·intro done vals w1 hB _ hZ hni hcl hdn _
  have hz : RZ w0 S8 N0 st mem stack done vals w1 := hZ
  have hj := hdn 3 (by kernel_rfl)
  obtain ⟨s, es, hs⟩ := (hz.done3 hj).sl
  have hst := q08 w1 ⟨S8, 4, none⟩ (.slice s.A s.n s.c)
  refine q14 (w' := w1.setCell ⟨S8, 4, none⟩ (.slice s.A s.n s.c)) rfl ?_ ⟨q15 rfl (hB.setCell (Nat.le_refl _) _) trivial hst.size trivial, fun _ => hz.st9 hj hni es (by omega)⟩
  rw [q0D es]
  exact q13 rfl (by kernel_rfl) (by kernel_rfl) (q22 (CellsAt.of_block hz.x 4 _ rfl) (frozen_of_row w1 S8 4 _ _ hz.x) (by kernel_rfl))
 ·intro done vals w1 hB _ hZ hni hcl hdn _
  refine q02 rfl ?_ ⟨q04 rfl, noturn rfl⟩
  kernel_rfl
 ·intro done vals w1 hB _ hZ hni hcl hdn _
  have hz : RZ w0 S8 N0 st mem stack done vals w1 := hZ
  have hj := hdn 7 (by kernel_rfl)
  obtain ⟨s, es, hs⟩ := (hz.done7 hj).sl
  have hst := q08 w1 ⟨S8, 5, none⟩ (.slice s.A s.n s.c)
  refine q14 (w' := w1.setCell ⟨S8, 5, none⟩ (.slice s.A s.n s.c)) rfl ?_ ⟨q15 rfl (hB.setCell (Nat.le_refl _) _) trivial hst.size trivial, fun _ => hz.st11 hj hni es (by omega)⟩
  rw [q0D es]
  exact q13 rfl (by kernel_rfl) (by kernel_rfl) (q22 (CellsAt.of_block hz.x 5 _ rfl) (frozen_of_row w1 S8 5 _ _ hz.x) (by kernel_rfl))
 intro done vals w9 b9 _ hall hZ hr
 have hz : RZ w0 S8 N0 st mem stack done vals w9 := hZ
 obtain ⟨sM, eM, hM⟩ := (hz.done3 (hall 3 (by simp))).sl
 obtain ⟨sS, eS, hS⟩ := (hz.done7 (hall 7 (by simp))).sl
 clear hr
 simp only [fillT, Tell.is, Tell.turns, Act.put, List.setIfInBounds_toArray, List.set_cons_zero, List.set_cons_succ]
 refine hQ _ _ _ _ _ _ _ _ _ _ w9 sM sS hM hS ?_ ?_ hz.g
 ·have := hz.ap
  simp only [rowV, hall 3 (by simp), hall 7 (by simp), if_true, eM, eS] at this
  exact this
 ·have := hz.x
  simp only [retCs, hall 9 (by simp), hall 11 (by simp), if_true, eM, eS] at this
  exact this
end
end Go.Proofs.Ytchldbkjapnlcaa
