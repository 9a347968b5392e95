/- conf.Still: the region. conf.Still: a machine of its own memory. -/
import Derived.Test.YtchldbkjapnlcaaJn
set_option linter.unusedVariables false
set_option linter.unusedSimpArgs false
namespace Go.Proofs.Ytchldbkjapnlcaa
open Go.RowKit
section
noncomputable def regC (id : Nat) : Code := (Try.f63.body.bind (findRegion id)).getD .skip
def Fr (B : Nat) (v : Value) (w : World) : Prop := ∀ k ∈ blocksOf v, B ≤ k ∧ k < w.heap.size
theorem OwnI.fr {w : World} {B : Nat} {v : Value} {l : List Int} (h : OwnI w B v l) : Fr B v w := by
 obtain ⟨s, rfl, ho⟩ := h.sl
 exact fun k hk => World.ownsRow.lt ho k (by simpa [blocksOf] using hk)
theorem OwnE.fr {w : World} {B : Nat} {v : Value} {l : List Ent} (h : OwnE w B v l) : Fr B v w := by
 obtain ⟨s, rfl, ho⟩ := h.sl
 exact fun k hk => World.ownsRow.lt ho k (by simpa [blocksOf] using hk)
theorem StOwn.fr {w : World} {B : Nat} {c : Stt} {m : State} (h : StOwn w B c m) : Fr B c.v w := fun k hk => by
 rcases (blocks_st c k).1 hk with hk | hk
 ·exact World.ownsRow.lt h.mem k (by simpa [blocksOf] using hk)
 ·exact World.ownsRow.lt h.stack k (by simpa [blocksOf] using hk)
theorem list7 (l : List Value) (h : l.length = 7) : ∃ a b c d e f g, l = [a, b, c, d, e, f, g] := by
 match l, h with
 | [a, b, c, d, e, f, g], _ => exact ⟨a, b, c, d, e, f, g, rfl⟩
def aggCells : Value → List Value
 | .agg cs => cs.toList
 | _ => []
theorem agg_st (c : Stt) : aggCells c.v = c.cs := rfl
theorem run_store_part {P : Program} {w : World} {b : Nat} {t ty : TypeId} {cs0 rest : List Value} (v : Value) (cs : List Value) (hv : v.cells = cs.toArray) (h : w.heap[b]? = some (.cells (cs0 ++ rest).toArray t (0, 0))) (hn : cs0.length = cs.length) (h1 : cs.all Value.oneCell' = true)
  (hi : (P.info? ty).map (·.size) = some cs.length) : ∃ w' : World, (storeVar ty ⟨b, 0, none⟩ v).run P w = .ok () w' ∧ w'.heap[b]? = some (.cells (cs ++ rest).toArray t (0, 0)) ∧ w.grownBy w' (some b) := by
 obtain ⟨w', new, hr, hw, hs, hj, hg⟩ := q39 P b t cs 0 _ w h (by simp; omega) (fun u hu => List.all_eq_true.1 h1 u hu)
 refine ⟨w', ?_, ?_, hg⟩
 ·cases hq : P.info? ty with
  | none => simp [hq] at hi
  | some i =>
   have hsz : i.size = cs.length := by simpa [hq] using hi
   simp [storeVar, sizeOf, typeInfo, hq, hsz, hv, hr]
 ·rw [hw]
  congr 2
  apply Array.ext_getElem?
  intro j
  rw [hj j]
  by_cases hlt : j < cs.length
  ·rw [if_pos (by omega)]
   simp [List.getElem?_append_left hlt]
  ·rw [if_neg (by omega)]
   simp [List.getElem?_append_right (show cs.length ≤ j by omega), List.getElem?_append_right (show cs0.length ≤ j by omega), hn]
def cstCs (c : Cnf) (done : Nat → Bool) (vals : Nat → Value) : List Value := (if done 10 = true then aggCells (vals 2) else c.st.cs) ++ [(if done 12 = true then vals 5 else .slice c.buf.A c.buf.n c.buf.c), (if done 14 = true then vals 8 else .slice c.rsb.A c.rsb.n c.rsb.c), .int .i64 c.fin]
structure CZ (w0 : World) (S N0 : Nat) (c : Cnf) (m : Conf) (done : Nat → Bool) (vals : Nat → Value) (w : World) : Prop where
 s : N0 ≤ w.heap.size
 g : w0.grownBy w (some S)
 a : done 2 = true → ∃ st : Stt, vals 2 = st.v ∧ StOwn w N0 st m.st
 e : done 5 = true → OwnE w N0 (vals 5) m.buf
 q : done 8 = true → OwnI w N0 (vals 8) m.rsb
 ae : done 2 = true → done 5 = true → Dj (vals 2) (vals 5)
 aq : done 2 = true → done 8 = true → Dj (vals 2) (vals 8)
 eq : done 5 = true → done 8 = true → Dj (vals 5) (vals 8)
 x2 : done 10 = true → done 2 = true
 x : w.heap[S]? = some (.cells (cstCs c done vals).toArray 41 (0, 0))
structure StAt (w : World) (S : Nat) (c : Stt) (m : State) : Prop where
 r0 : c.r0 = m.r0
 r1 : c.r1 = m.r1
 r2 : c.r2 = m.r2
 r3 : c.r3 = m.r3
 mem : RdAt w S c.mem m.mem
 memc : c.mem.n ≤ c.mem.c
 stack : RdAt w S c.stack m.stack
 stackc : c.stack.n ≤ c.stack.c
 pc : c.pc = m.pc
theorem StAt.is {w0 w : World} {S N0 : Nat} {c : Stt} {m : State} (h : StAt w0 S c m) (hb : Below S w0 w) (hN : w0.heap.size = N0) (hS : S < N0) : StIs w c m :=
 ⟨h.r0, h.r1, h.r2, h.r3, ⟨h.mem.n, h.memc, reads_below h.mem.r hb hN hS⟩, ⟨h.stack.n, h.stackc, reads_below h.stack.r hb hN hS⟩, h.pc⟩
structure RdAtE (w : World) (S : Nat) (s : Sl) (l : List Ent) : Prop where
 n : s.n = l.length
 r : Reads w S 8 s.A l.length (entCs l)
section
variable {w0 w : World} {S N0 : Nat} {c : Cnf} {m : Conf} {done : Nat → Bool} {vals : Nat → Value}
theorem CZ.start (h : w0.heap[S]? = some (.cells c.cs.toArray 41 (0, 0))) (hN : w0.heap.size = N0) : CZ w0 S N0 c m (fun _ => false) (fun _ => undef) w0.drew := by
 refine ⟨by show N0 ≤ w0.heap.size; omega, q1A (Below.refl _ _).drew _, fun h => (by cases h), fun h => (by cases h), fun h => (by cases h), fun h => (by cases h), fun h => (by cases h), fun h => (by cases h), fun h => (by cases h), ?_⟩
 have h2 : w0.drew.heap[S]? = some (.cells c.cs.toArray 41 (0, 0)) := h
 simpa [cstCs, Cnf.cs, Stt.cs] using h2
theorem CZ.fr2 (h : CZ w0 S N0 c m done vals w) (hd : done 2 = true) : ∀ k ∈ blocksOf (vals 2), k < w.heap.size := fun k hk => by
 obtain ⟨st, es, ho⟩ := h.a hd
 rw [es] at hk
 exact (ho.fr k hk).2
theorem CZ.fr5 (h : CZ w0 S N0 c m done vals w) (hd : done 5 = true) : ∀ k ∈ blocksOf (vals 5), k < w.heap.size := fun k hk => ((h.e hd).fr k hk).2
theorem CZ.fr8 (h : CZ w0 S N0 c m done vals w) (hd : done 8 = true) : ∀ k ∈ blocksOf (vals 8), k < w.heap.size := fun k hk => ((h.q hd).fr k hk).2
theorem CZ.len10 (h : CZ w0 S N0 c m done vals w) (hd : done 10 = true) : (aggCells (vals 2)).length = 7 := by
 obtain ⟨st, es, _⟩ := h.a (h.x2 hd)
 rw [es]
 rfl
theorem CZ.x10 (h : CZ w0 S N0 c m done vals w) (hd : done 10 = false) : w.heap[S]? = some (.cells (c.st.cs ++ [(if done 12 = true then vals 5 else .slice c.buf.A c.buf.n c.buf.c), (if done 14 = true then vals 8 else .slice c.rsb.A c.rsb.n c.rsb.c), .int .i64 c.fin]).toArray 41 (0, 0)) := by
 have := h.x
 simp only [cstCs, hd, Bool.false_eq_true, if_false] at this
 exact this
theorem CZ.stcells (h : CZ w0 S N0 c m done vals w) (hd : done 10 = false) : CellsAt w S 0 c.st.cs := fun j u hu => by
 have hj := (List.getElem?_eq_some_iff.1 hu).1
 exact CellsAt.of_block (h.x10 hd) j u (by rw [List.getElem?_append_left hj]; exact hu)
theorem CZ.tail (h : CZ w0 S N0 c m done vals w) (j : Nat) : w.cell? ⟨S, 7 + j, none⟩ = [(if done 12 = true then vals 5 else .slice c.buf.A c.buf.n c.buf.c), (if done 14 = true then vals 8 else .slice c.rsb.A c.rsb.n c.rsb.c), Value.int .i64 c.fin][j]? := by
 rw [cell_of_row w S (7 + j) _ _ _ h.x]
 unfold cstCs
 have hl : (if done 10 = true then aggCells (vals 2) else c.st.cs).length = 7 := by
  split
  ·exact h.len10 (by assumption)
  ·rfl
 rw [List.getElem?_toArray, List.getElem?_append_right (by omega), hl, Nat.add_sub_cancel_left]
theorem CZ.bufcell (h : CZ w0 S N0 c m done vals w) (hd : done 12 = false) : w.cell? ⟨S, 7, none⟩ = some (.slice c.buf.A c.buf.n c.buf.c) := by
 have := h.tail 0
 simpa [hd] using this
theorem CZ.rsbcell (h : CZ w0 S N0 c m done vals w) (hd : done 14 = false) : w.cell? ⟨S, 8, none⟩ = some (.slice c.rsb.A c.rsb.n c.rsb.c) := by
 have := h.tail 1
 simpa [hd] using this
theorem CZ.other {i : Nat} {v : Value} {w' : World} (h : CZ w0 S N0 c m done vals w) (h2 : ¬ 2 = i) (h5 : ¬ 5 = i) (h8 : ¬ 8 = i) (h10 : ¬ 10 = i) (h12 : ¬ 12 = i) (h14 : ¬ 14 = i) (hb : Below w.heap.size w w') (hS : S < N0) :
  CZ w0 S N0 c m (fun j => done j || j == i) (fun j => if j = i then v else vals j) w' := by
 have e : ∀ k, ¬ k = i → (done k || k == i) = done k := fun k hk => by rw [show (k == i) = false by simpa using hk, Bool.or_false]
 refine ⟨Nat.le_trans h.s hb.size, h.g.trans (q1A hb _), fun hd => ?_, fun hd => ?_, fun hd => ?_, fun ga gb => ?_, fun ga gb => ?_, fun ga gb => ?_, fun hd => (by simp only [e 10 h10] at hd; simp only [e 2 h2]; exact h.x2 hd), ?_⟩
 ·simp only [e 2 h2] at hd
  simp only [if_neg h2]
  obtain ⟨st, es, ho⟩ := h.a hd
  exact ⟨st, es, ho.past hb⟩
 ·simp only [e 5 h5] at hd
  simp only [if_neg h5]
  exact (h.e hd).past hb
 ·simp only [e 8 h8] at hd
  simp only [if_neg h8]
  exact (h.q hd).past hb
 ·simp only [e 2 h2] at ga
  simp only [e 5 h5] at gb
  simp only [if_neg h2, if_neg h5]
  exact h.ae ga gb
 ·simp only [e 2 h2] at ga
  simp only [e 8 h8] at gb
  simp only [if_neg h2, if_neg h8]
  exact h.aq ga gb
 ·simp only [e 5 h5] at ga
  simp only [e 8 h8] at gb
  simp only [if_neg h5, if_neg h8]
  exact h.eq ga gb
 ·have := q01 h.x hb
  simp only [cstCs, e 10 h10, e 12 h12, e 14 h14, if_neg h2, if_neg h5, if_neg h8] at this ⊢
  exact this
theorem CZ.mk2 {st : Stt} {w' : World} (h : CZ w0 S N0 c m done vals w) (_ : done 2 = false) (ho : StOwn w' w.heap.size st m.st) (hb : Below w.heap.size w w') (hS : S < N0) (hst : done 10 = false) :
  CZ w0 S N0 c m (fun j => done j || j == 2) (fun j => if j = 2 then st.v else vals j) w' := by
 have hs : N0 ≤ w.heap.size := h.s
 have hfr : Fr w.heap.size st.v w' := ho.fr
 refine ⟨Nat.le_trans hs hb.size, h.g.trans (q1A hb _), fun hd => ?_, fun hd => ?_, fun hd => ?_, fun ga gb => ?_, fun ga gb => ?_, fun ga gb => ?_, fun hd => (by have h10 : done 10 = true := (by simpa using hd); simp [h.x2 h10]), ?_⟩
 ·exact ⟨st, rfl, ho.lower hs⟩
 ·exact (h.e (by simpa using hd)).past hb
 ·exact (h.q (by simpa using hd)).past hb
 ·have := h.fr5 (by simpa using gb)
  show Dj (if 2 = 2 then st.v else vals 2) (if 5 = 2 then st.v else vals 5)
  rw [if_pos rfl, if_neg (by decide)]
  exact fun k hk hk2 => by have := hfr k hk; have := (h.fr5 (by simpa using gb)) k hk2; omega
 ·have := h.fr8 (by simpa using gb)
  show Dj (if 2 = 2 then st.v else vals 2) (if 8 = 2 then st.v else vals 8)
  rw [if_pos rfl, if_neg (by decide)]
  exact fun k hk hk2 => by have := hfr k hk; have := (h.fr8 (by simpa using gb)) k hk2; omega
 ·exact h.eq (by simpa using ga) (by simpa using gb)
 ·have := q01 h.x hb
  simp only [cstCs] at this ⊢
  have e : ∀ k, k ≠ 2 → (done k || k == 2) = done k := fun k hk => by rw [show (k == 2) = false by simpa using hk, Bool.or_false]
  simp only [e 10 (by decide), e 12 (by decide), e 14 (by decide), hst, Bool.false_eq_true, if_false, show ¬ ((5 : Nat) = 2) by decide, show ¬ ((8 : Nat) = 2) by decide] at this ⊢
  exact this
theorem CZ.mk5 {v : Value} {w' : World} (h : CZ w0 S N0 c m done vals w) (_ : done 5 = false) (ho : OwnE w' w.heap.size v m.buf) (hb : Below w.heap.size w w') (hS : S < N0) (hst : done 12 = false) :
  CZ w0 S N0 c m (fun j => done j || j == 5) (fun j => if j = 5 then v else vals j) w' := by
 have hs : N0 ≤ w.heap.size := h.s
 have hfr : Fr w.heap.size v w' := ho.fr
 refine ⟨Nat.le_trans hs hb.size, h.g.trans (q1A hb _), fun hd => ?_, fun hd => ?_, fun hd => ?_, fun ga gb => ?_, fun ga gb => ?_, fun ga gb => ?_, fun hd => (by have h10 : done 10 = true := (by simpa using hd); simp [h.x2 h10]), ?_⟩
 ·obtain ⟨st, es, ho2⟩ := h.a (by simpa using hd)
  exact ⟨st, es, ho2.past hb⟩
 ·exact ho.lower hs
 ·exact (h.q (by simpa using hd)).past hb
 ·have := h.fr2 (by simpa using ga)
  show Dj (if 2 = 5 then v else vals 2) (if 5 = 5 then v else vals 5)
  rw [if_neg (by decide), if_pos rfl]
  exact fun k hk hk2 => by have := hfr k hk2; have := (h.fr2 (by simpa using ga)) k hk; omega
 ·exact h.aq (by simpa using ga) (by simpa using gb)
 ·have := h.fr8 (by simpa using gb)
  show Dj (if 5 = 5 then v else vals 5) (if 8 = 5 then v else vals 8)
  rw [if_pos rfl, if_neg (by decide)]
  exact fun k hk hk2 => by have := hfr k hk; have := (h.fr8 (by simpa using gb)) k hk2; omega
 ·have := q01 h.x hb
  simp only [cstCs] at this ⊢
  have e : ∀ k, k ≠ 5 → (done k || k == 5) = done k := fun k hk => by rw [show (k == 5) = false by simpa using hk, Bool.or_false]
  simp only [e 10 (by decide), e 12 (by decide), e 14 (by decide), hst, Bool.false_eq_true, if_false, show ¬ ((2 : Nat) = 5) by decide, show ¬ ((8 : Nat) = 5) by decide] at this ⊢
  exact this
theorem CZ.mk8 {v : Value} {w' : World} (h : CZ w0 S N0 c m done vals w) (_ : done 8 = false) (ho : OwnI w' w.heap.size v m.rsb) (hb : Below w.heap.size w w') (hS : S < N0) (hst : done 14 = false) :
  CZ w0 S N0 c m (fun j => done j || j == 8) (fun j => if j = 8 then v else vals j) w' := by
 have hs : N0 ≤ w.heap.size := h.s
 have hfr : Fr w.heap.size v w' := ho.fr
 refine ⟨Nat.le_trans hs hb.size, h.g.trans (q1A hb _), fun hd => ?_, fun hd => ?_, fun hd => ?_, fun ga gb => ?_, fun ga gb => ?_, fun ga gb => ?_, fun hd => (by have h10 : done 10 = true := (by simpa using hd); simp [h.x2 h10]), ?_⟩
 ·obtain ⟨st, es, ho2⟩ := h.a (by simpa using hd)
  exact ⟨st, es, ho2.past hb⟩
 ·exact (h.e (by simpa using hd)).past hb
 ·exact ho.lower hs
 ·exact h.ae (by simpa using ga) (by simpa using gb)
 ·have := h.fr2 (by simpa using ga)
  show Dj (if 2 = 8 then v else vals 2) (if 8 = 8 then v else vals 8)
  rw [if_neg (by decide), if_pos rfl]
  exact fun k hk hk2 => by have := hfr k hk2; have := (h.fr2 (by simpa using ga)) k hk; omega
 ·have := h.fr5 (by simpa using ga)
  show Dj (if 5 = 8 then v else vals 5) (if 8 = 8 then v else vals 8)
  rw [if_neg (by decide), if_pos rfl]
  exact fun k hk hk2 => by have := hfr k hk2; have := (h.fr5 (by simpa using ga)) k hk; omega
 ·have := q01 h.x hb
  simp only [cstCs] at this ⊢
  have e : ∀ k, k ≠ 8 → (done k || k == 8) = done k := fun k hk => by rw [show (k == 8) = false by simpa using hk, Bool.or_false]
  simp only [e 10 (by decide), e 12 (by decide), e 14 (by decide), hst, Bool.false_eq_true, if_false, show ¬ ((2 : Nat) = 8) by decide, show ¬ ((5 : Nat) = 8) by decide] at this ⊢
  exact this
theorem CZ.st12 (h : CZ w0 S N0 c m done vals w) (_ : done 5 = true) (hi : done 12 = false) (hS : S < N0) :
  CZ w0 S N0 c m (fun j => done j || j == 12) (fun j => if j = 12 then undef else vals j) (w.setCell ⟨S, 7, none⟩ (vals 5)) := by
 refine ⟨by simpa [World.setCell] using h.s, h.g.trans (q08 w ⟨S, 7, none⟩ (vals 5)), fun hd => ?_, fun hd => ?_, fun hd => ?_, fun ga gb => ?_, fun ga gb => ?_, fun ga gb => ?_, fun hd => (by have h10 : done 10 = true := (by simpa using hd); simp [h.x2 h10]), ?_⟩
 ·obtain ⟨st, es, ho2⟩ := h.a (by simpa using hd)
  exact ⟨st, es, ho2.far (by show S < N0; omega) _⟩
 ·exact OwnE.far (h.e (by simpa using hd)) (by show S < N0; omega) _
 ·exact OwnI.far (h.q (by simpa using hd)) (by show S < N0; omega) _
 ·exact h.ae (by simpa using ga) (by simpa using gb)
 ·exact h.aq (by simpa using ga) (by simpa using gb)
 ·exact h.eq (by simpa using ga) (by simpa using gb)
 ·have := heap_setCell_same w S 7 _ _ (vals 5) h.x
  rw [this]
  by_cases h10 : done 10 = true
  ·have hst := h.len10 h10
   simp only [cstCs, h10, hi, if_true, Bool.true_or, Bool.false_eq_true, if_false, show (12 == 12) = true from rfl, Bool.or_true, show (14 == 12) = false from rfl, Bool.or_false, show ¬ ((2 : Nat) = 12) by decide, show ¬ ((5 : Nat) = 12) by decide, show ¬ ((8 : Nat) = 12) by decide]
   obtain ⟨l, hl⟩ : ∃ l, aggCells (vals 2) = l := ⟨_, rfl⟩
   rw [hl] at hst ⊢
   obtain ⟨b0, b1, b2, b3, b4, b5, b6, rfl⟩ := list7 l hst
   rfl
  ·have h10 : done 10 = false := by simpa using h10
   simp only [cstCs, Stt.cs, h10, hi, Bool.false_or, if_true, Bool.false_eq_true, if_false, show (12 == 12) = true from rfl, Bool.or_true, show (14 == 12) = false from rfl, Bool.or_false, show (10 == 12) = false from rfl, show ¬ ((2 : Nat) = 12) by decide, show ¬ ((5 : Nat) = 12) by decide, show ¬ ((8 : Nat) = 12) by decide]
   rfl
theorem CZ.st14 (h : CZ w0 S N0 c m done vals w) (_ : done 8 = true) (hi : done 14 = false) (hS : S < N0) :
  CZ w0 S N0 c m (fun j => done j || j == 14) (fun j => if j = 14 then undef else vals j) (w.setCell ⟨S, 8, none⟩ (vals 8)) := by
 refine ⟨by simpa [World.setCell] using h.s, h.g.trans (q08 w ⟨S, 8, none⟩ (vals 8)), fun hd => ?_, fun hd => ?_, fun hd => ?_, fun ga gb => ?_, fun ga gb => ?_, fun ga gb => ?_, fun hd => (by have h10 : done 10 = true := (by simpa using hd); simp [h.x2 h10]), ?_⟩
 ·obtain ⟨st, es, ho2⟩ := h.a (by simpa using hd)
  exact ⟨st, es, ho2.far (by show S < N0; omega) _⟩
 ·exact OwnE.far (h.e (by simpa using hd)) (by show S < N0; omega) _
 ·exact OwnI.far (h.q (by simpa using hd)) (by show S < N0; omega) _
 ·exact h.ae (by simpa using ga) (by simpa using gb)
 ·exact h.aq (by simpa using ga) (by simpa using gb)
 ·exact h.eq (by simpa using ga) (by simpa using gb)
 ·have := heap_setCell_same w S 8 _ _ (vals 8) h.x
  rw [this]
  by_cases h10 : done 10 = true
  ·have hst := h.len10 h10
   simp only [cstCs, h10, hi, if_true, Bool.true_or, Bool.false_eq_true, if_false, show (14 == 14) = true from rfl, Bool.or_true, show (12 == 14) = false from rfl, Bool.or_false, show ¬ ((2 : Nat) = 14) by decide, show ¬ ((5 : Nat) = 14) by decide, show ¬ ((8 : Nat) = 14) by decide]
   obtain ⟨l, hl⟩ : ∃ l, aggCells (vals 2) = l := ⟨_, rfl⟩
   rw [hl] at hst ⊢
   obtain ⟨b0, b1, b2, b3, b4, b5, b6, rfl⟩ := list7 l hst
   rfl
  ·have h10 : done 10 = false := by simpa using h10
   simp only [cstCs, Stt.cs, h10, hi, Bool.false_or, if_true, Bool.false_eq_true, if_false, show (14 == 14) = true from rfl, Bool.or_true, show (12 == 14) = false from rfl, Bool.or_false, show (10 == 14) = false from rfl, show ¬ ((2 : Nat) = 14) by decide, show ¬ ((5 : Nat) = 14) by decide, show ¬ ((8 : Nat) = 14) by decide]
   rfl
theorem CZ.st10 {st : Stt} {w' : World} (h : CZ w0 S N0 c m done vals w) (hj : done 2 = true) (_ : done 10 = false) (es : vals 2 = st.v) (hw : w'.heap[S]? = some (.cells (st.cs ++ [(if done 12 = true then vals 5 else .slice c.buf.A c.buf.n c.buf.c), (if done 14 = true then vals 8 else .slice c.rsb.A c.rsb.n c.rsb.c), .int .i64 c.fin]).toArray 41 (0, 0))) (hg : w.grownBy w' (some S)) (hS : S < N0) :
  CZ w0 S N0 c m (fun j => done j || j == 10) (fun j => if j = 10 then undef else vals j) w' := by
 refine ⟨Nat.le_trans h.s hg.size, h.g.trans hg, fun hd => ?_, fun hd => ?_, fun hd => ?_, fun ga gb => ?_, fun ga gb => ?_, fun ga gb => ?_, fun _ => (by simp [hj]), ?_⟩
 ·obtain ⟨st, es, ho2⟩ := h.a (by simpa using hd)
  exact ⟨st, es, ⟨ho2.r0, ho2.r1, ho2.r2, ho2.r3, World.ownsRow.kept ho2.mem hg (own_ne ho2.mem hS), World.ownsRow.kept ho2.stack hg (own_ne ho2.stack hS), ho2.pc, ho2.dj⟩⟩
 ·exact World.ownsRow.kept (h.e (by simpa using hd)) hg (own_ne (h.e (by simpa using hd)) hS)
 ·exact World.ownsRow.kept (h.q (by simpa using hd)) hg (own_ne (h.q (by simpa using hd)) hS)
 ·exact h.ae (by simpa using ga) (by simpa using gb)
 ·exact h.aq (by simpa using ga) (by simpa using gb)
 ·exact h.eq (by simpa using ga) (by simpa using gb)
 ·rw [hw]
  simp only [cstCs, show (10 == 10) = true from rfl, Bool.or_true, if_true, show (12 == 10) = false from rfl, show (14 == 10) = false from rfl, Bool.or_false, show ¬ ((2 : Nat) = 10) by decide, show ¬ ((5 : Nat) = 10) by decide, show ¬ ((8 : Nat) = 10) by decide, if_false, es, agg_st]
end
set_option maxRecDepth 100000 in
set_option maxHeartbeats 8000000 in
theorem cstill_region {z0 z2 z3 z4 z5 z6 z7 z8 z9 z10 z11 z12 z13 z14 z15 : Value} (w0 : World) (S N0 : Nat) (c : Cnf) (m : Conf) (X : Kept (w0.heap[S]? = some (.cells c.cs.toArray 41 (0, 0)))) (Hst : StAt w0 S c.st m.st) (Hbuf : RdAtE w0 S c.buf m.buf) (Hrsb : RdAt w0 S c.rsb m.rsb)
  (hml : m.st.mem.length ≤ 1000) (hsl : m.st.stack.length ≤ 1000) (hbl : m.buf.length ≤ 1000) (hrl : m.rsb.length ≤ 1000) (hN : w0.heap.size = N0) (hS : S < N0) (Q : Exit → Act → World → Prop)
  (hQ : ∀ (u3 u4 u5 u6 u7 u8 u9 u10 u11 u12 u13 u14 : Value) (w' : World) (st : Stt) (s5 s8 : Sl), StOwn w' N0 st m.st → OwnE w' N0 (.slice s5.A s5.n s5.c) m.buf → OwnI w' N0 (.slice s8.A s8.n s8.c) m.rsb → Dj st.v (.slice s5.A s5.n s5.c) → Dj st.v (.slice s8.A s8.n s8.c) → Dj (.slice s5.A s5.n s5.c) (.slice s8.A s8.n s8.c) →
   w'.heap[S]? = some (.cells (Cnf.cs ⟨st, s5, s8, c.fin⟩).toArray 41 (0, 0)) → w0.grownBy w' (some S) → Q .normal ⟨#[z0, .pointer (some ⟨S, 0, none⟩), z2, u3, u4, u5, u6, u7, u8, u9, u10, u11, u12, u13, u14, z15], []⟩ w') :
  Code.wp Try.prog (regC 1) Q ⟨#[z0, .pointer (some ⟨S, 0, none⟩), z2, z3, z4, z5, z6, z7, z8, z9, z10, z11, z12, z13, z14, z15], []⟩ w0 := by
 conv => arg 2; whnf
 refine q19 (fun done vals w => CZ w0 S N0 c m done vals w) (S) (G := fun _ => True) (ts := [
   .is (Value.pointer (some ⟨S, 0, none⟩)),
   .is c.st.v,
   .turns (fun v _ => True) (fun _ _ => True),
   .is (Value.pointer (some ⟨S, 7, none⟩)),
   .is (.slice c.buf.A c.buf.n c.buf.c),
   .turns (fun v _ => True) (fun _ _ => True),
   .is (Value.pointer (some ⟨S, 8, none⟩)),
   .is (.slice c.rsb.A c.rsb.n c.rsb.c),
   .turns (fun v _ => True) (fun _ _ => True),
   .is (Value.pointer (some ⟨S, 0, none⟩)),
   .sets (fun _ _ => True),
   .is (Value.pointer (some ⟨S, 7, none⟩)),
   .sets (fun _ _ => True),
   .is (Value.pointer (some ⟨S, 8, none⟩)),
   .sets (fun _ _ => True)])
  (fin := []) (cs := [(2, 5), (2, 8), (2, 10), (2, 12), (2, 14), (5, 2), (5, 8), (5, 10), (5, 12), (5, 14), (8, 2), (8, 5), (8, 10), (8, 12), (8, 14), (10, 2), (10, 5), (10, 8), (10, 12), (10, 14), (12, 2), (12, 5), (12, 8), (12, 10), (12, 14), (14, 2), (14, 5), (14, 8), (14, 10), (14, 12)]) ?z0 ?zg (by kernel_rfl) rfl (by kernel_rfl) (by kernel_rfl)
  ⟨trivial, trivial, q07 _, trivial, trivial, q07 _, trivial, trivial, q07 _, trivial, (fun _ _ _ _ _ => trivial), trivial, (fun _ _ _ _ _ => trivial), trivial, (fun _ _ _ _ _ => trivial), trivial⟩ (fun _ _ _ _ => trivial) ?cs (by omega) trivial
  ⟨?_, ?_, ?_, ?_, ?_, ?_, ?_, ?_, ?_, ?_, ?_, ?_, ?_, ?_, ?_, trivial⟩ ?_
 case z0 =>
  show _
  exact CZ.start X.out hN
 case zg =>
  intro i done vals w1 w2 v hti hni hZ hb
  have hz := hZ
  ·skip
   have hz : CZ w0 S N0 c m done vals w1 := hz
   have h2 : ¬ 2 = i := by rintro rfl; cases hti
   have h5 : ¬ 5 = i := by rintro rfl; cases hti
   have h8 : ¬ 8 = i := by rintro rfl; cases hti
   have h10 : ¬ 10 = i := by rintro rfl; cases hti
   have h12 : ¬ 12 = i := by rintro rfl; cases hti
   have h14 : ¬ 14 = i := by rintro rfl; cases hti
   exact hz.other h2 h5 h8 h10 h12 h14 hb hS
 case cs =>
  intro p hp v w1 w2 hG hR hE
  simp only [List.mem_cons, List.not_mem_nil, or_false] at hp
  rcases hp with rfl | rfl | rfl | rfl | rfl | rfl | rfl | rfl | rfl | rfl | rfl | rfl | rfl | rfl | rfl | rfl | rfl | rfl | rfl | rfl | rfl | rfl | rfl | rfl | rfl | rfl | rfl | rfl | rfl | rfl
  ·exact hR
  ·exact hR
  ·exact hR
  ·exact hR
  ·exact hR
  ·exact hR
  ·exact hR
  ·exact hR
  ·exact hR
  ·exact hR
  ·exact hR
  ·exact hR
  ·exact hR
  ·exact hR
  ·exact hR
  ·exact hR
  ·exact hR
  ·exact hR
  ·exact hR
  ·exact hR
  ·exact hR
  ·exact hR
  ·exact hR
  ·exact hR
  ·exact hR
  ·exact hR
  ·exact hR
  ·exact hR
  ·exact hR
  ·exact hR
 ·intro done vals w1 hB _ hZ hni hcl hdn _
  refine q02 rfl ?_ ⟨q04 rfl, noturn rfl⟩
  kernel_rfl
 ·intro done vals w1 hB _ hZ hni hcl hdn _
  have hz : CZ w0 S N0 c m done vals w1 := hZ
  have h9 := hcl 10 _ rfl (by kernel_rfl)
  refine q02 rfl ?_ ⟨q04 rfl, noturn rfl⟩
  exact q09 rfl (b := S) (off := 0) (by kernel_rfl) (Stt.cs c.st) (hz.stcells h9) Try.underlying36 rfl (by kernel_rfl)
 ·intro done vals w1 hB _ hZ hni hcl hdn _
  have hz : CZ w0 S N0 c m done vals w1 := hZ
  refine q12 (f := 85) (args := #[c.st.v]) (w1 := w1) rfl (by kernel_rfl) ?_
  refine (astill_any c.st m.st w1 (Hst.is (q2A hz.g (by omega)) hN hS) hml hsl).mono ?_
  rintro e1 w2 ⟨st, rfl, ho, hb2⟩
  exact ⟨st.v, rfl, q16 rfl trivial (hB.trans (hb2.mono (by have := hB.size; omega))) trivial hb2.size trivial, fun _ => hz.mk2 hni ho hb2 hS (hcl 10 _ rfl (by kernel_rfl))⟩
 ·intro done vals w1 hB _ hZ hni hcl hdn _
  refine q02 rfl ?_ ⟨q04 rfl, noturn rfl⟩
  kernel_rfl
 ·intro done vals w1 hB _ hZ hni hcl hdn _
  have hz : CZ w0 S N0 c m done vals w1 := hZ
  have h9 := hcl 12 _ rfl (by kernel_rfl)
  refine q02 rfl ?_ ⟨q04 rfl, noturn rfl⟩
  exact q0A rfl (by kernel_rfl) (hz.bufcell h9) Try.underlying39 rfl
 ·intro done vals w1 hB _ hZ hni hcl hdn _
  have hz : CZ w0 S N0 c m done vals w1 := hZ
  refine q12 (f := 91) (args := #[.slice c.buf.A c.buf.n c.buf.c]) (w1 := w1) rfl (by kernel_rfl) ?_
  refine (clone_ent_at c.buf.A c.buf.n c.buf.c m.buf w1 Hbuf.n.symm (reads_below Hbuf.r (q2A hz.g (by omega)) hN hS) (by have := Hbuf.n; omega)).mono ?_
  rintro e1 w2 ⟨v2, rfl, ho, hb2⟩
  exact ⟨v2, rfl, q16 rfl trivial (hB.trans (hb2.mono (by have := hB.size; omega))) trivial hb2.size trivial, fun _ => hz.mk5 hni ho hb2 hS (hcl 12 _ rfl (by kernel_rfl))⟩
 ·intro done vals w1 hB _ hZ hni hcl hdn _
  refine q02 rfl ?_ ⟨q04 rfl, noturn rfl⟩
  kernel_rfl
 ·intro done vals w1 hB _ hZ hni hcl hdn _
  have hz : CZ w0 S N0 c m done vals w1 := hZ
  have h9 := hcl 14 _ rfl (by kernel_rfl)
  refine q02 rfl ?_ ⟨q04 rfl, noturn rfl⟩
  exact q0A rfl (by kernel_rfl) (hz.rsbcell h9) Try.underlying22 rfl
 ·intro done vals w1 hB _ hZ hni hcl hdn _
  have hz : CZ w0 S N0 c m done vals w1 := hZ
  refine q12 (f := 54) (args := #[.slice c.rsb.A c.rsb.n c.rsb.c]) (w1 := w1) rfl (by kernel_rfl) ?_
  refine (clone_int_at c.rsb.A c.rsb.n c.rsb.c m.rsb w1 Hrsb.n.symm (reads_below Hrsb.r (q2A hz.g (by omega)) hN hS) (by have := Hrsb.n; omega)).mono ?_
  rintro e1 w2 ⟨v2, rfl, ho, hb2⟩
  exact ⟨v2, rfl, q16 rfl trivial (hB.trans (hb2.mono (by have := hB.size; omega))) trivial hb2.size trivial, fun _ => hz.mk8 hni ho hb2 hS (hcl 14 _ rfl (by kernel_rfl))⟩
 ·intro done vals w1 hB _ hZ hni hcl hdn _
  refine q02 rfl ?_ ⟨q04 rfl, noturn rfl⟩
  kernel_rfl
 ·intro done vals w1 hB _ hZ hni hcl hdn _
  have hz : CZ w0 S N0 c m done vals w1 := hZ
  have hj := hdn 2 (by kernel_rfl)
  obtain ⟨st, es, ho⟩ := hz.a hj
  obtain ⟨w2, hr2, hw2, hg2⟩ := run_store_part (P := Try.prog) (ty := 36) (vals 2) st.cs (by rw [es]; rfl) (hz.x10 hni) rfl (by rfl) (by kernel_rfl)
  refine q14 (w' := w2) rfl ?_ ⟨q15 rfl (Below.keepTo hB hg2 (Nat.le_refl _) (by have := hB.size; omega)) trivial hg2.size trivial, fun _ => hz.st10 hj hni es hw2 hg2 hS⟩
  exact q13 rfl (by kernel_rfl) (by kernel_rfl) hr2
 ·intro done vals w1 hB _ hZ hni hcl hdn _
  refine q02 rfl ?_ ⟨q04 rfl, noturn rfl⟩
  kernel_rfl
 ·intro done vals w1 hB _ hZ hni hcl hdn _
  have hz : CZ w0 S N0 c m done vals w1 := hZ
  have hj := hdn 5 (by kernel_rfl)
  obtain ⟨s, es, ho⟩ := (hz.e hj).sl
  have hst := q08 w1 ⟨S, 7, none⟩ (vals 5)
  refine q14 (w' := w1.setCell ⟨S, 7, none⟩ (vals 5)) rfl ?_ ⟨q15 rfl (hB.setCell (Nat.le_refl _) _) trivial hst.size trivial, fun _ => hz.st12 hj hni hS⟩
  have hc := hz.bufcell hni
  have hf := frozen_of_row w1 S 7 _ _ hz.x
  rw [q0D es]
  exact q13 rfl (by kernel_rfl) (by kernel_rfl) (q22 hc hf (by kernel_rfl))
 ·intro done vals w1 hB _ hZ hni hcl hdn _
  refine q02 rfl ?_ ⟨q04 rfl, noturn rfl⟩
  kernel_rfl
 ·intro done vals w1 hB _ hZ hni hcl hdn _
  have hz : CZ w0 S N0 c m done vals w1 := hZ
  have hj := hdn 8 (by kernel_rfl)
  obtain ⟨s, es, ho⟩ := (hz.q hj).sl
  have hst := q08 w1 ⟨S, 8, none⟩ (vals 8)
  refine q14 (w' := w1.setCell ⟨S, 8, none⟩ (vals 8)) rfl ?_ ⟨q15 rfl (hB.setCell (Nat.le_refl _) _) trivial hst.size trivial, fun _ => hz.st14 hj hni hS⟩
  have hc := hz.rsbcell hni
  have hf := frozen_of_row w1 S 8 _ _ hz.x
  rw [q0D es]
  exact q13 rfl (by kernel_rfl) (by kernel_rfl) (q22 hc hf (by kernel_rfl))
 intro done vals w9 b9 _ hall hZ hr
 have hz : CZ w0 S N0 c m done vals w9 := hZ
 obtain ⟨st, e2, o2⟩ := hz.a (hall 2 (by simp))
 obtain ⟨s5, e5, o5⟩ := (hz.e (hall 5 (by simp))).sl
 obtain ⟨s8, e8, o8⟩ := (hz.q (hall 8 (by simp))).sl
 have a25 := hz.ae (hall 2 (by simp)) (hall 5 (by simp))
 have a28 := hz.aq (hall 2 (by simp)) (hall 8 (by simp))
 have a58 := hz.eq (hall 5 (by simp)) (hall 8 (by simp))
 have hx := hz.x
 simp only [cstCs, hall 10 (by simp), hall 12 (by simp), hall 14 (by simp), if_true] at hx
 clear hr
 simp only [fillT, Tell.is, Tell.turns, Act.put, List.setIfInBounds_toArray, List.set_cons_zero, List.set_cons_succ]
 rw [e2, e5, e8, agg_st] at hx
 rw [e2, e5] at a25
 rw [e2, e8] at a28
 rw [e5, e8] at a58
 exact hQ _ _ _ _ _ _ _ _ _ _ _ _ w9 st s5 s8 o2 o5 o8 a25 a28 a58 hx hz.g
end
section
set_option maxRecDepth 100000 in
set_option maxHeartbeats 2000000 in
theorem cstill_any (c : Cnf) (m : Conf) (w : World) (hc : CfIs w c m) (hml : m.st.mem.length ≤ 1000) (hsl : m.st.stack.length ≤ 1000) (hbl : m.buf.length ≤ 1000) (hrl : m.rsb.length ≤ 1000) :
  Calls Try.prog 63 #[c.v] w fun en w' => ∃ c' : Cnf, en = .returned c'.v ∧ CfOwn w' w.heap.size c' m ∧ Below w.heap.size w w' := by
 have HC := Kept.mk hc
 obtain ⟨⟨r0, r1, r2, r3, ⟨mA, mN, mC⟩, ⟨sA, sN, sC⟩, pc⟩, ⟨bA, bN, bC⟩, ⟨qA, qN, qC⟩, fin⟩ := c
 clear hc
 go_enter Try.func63, Try.ntmps63
 go_wp2_with fail
 have bb := (q00 w (.cells #[.int .i64 r0, .int .i64 r1, .int .i64 r2, .int .i64 r3, .slice mA mN mC, .slice sA sN sC, .int .i64 pc, .slice bA bN bC, .slice qA qN qC, .int .i64 fin] 41)).alloc (by simp) (.cells #[.int .i64 0, .int .i64 0, .int .i64 0, .int .i64 0, .slice none 0 0, .slice none 0 0, .int .i64 0, .slice none 0 0, .slice none 0 0, .int .i64 0] 41)
 have X1 := Kept.mk ((heap_alloc_old (w.alloc (.cells #[.int .i64 r0, .int .i64 r1, .int .i64 r2, .int .i64 r3, .slice mA mN mC, .slice sA sN sC, .int .i64 pc, .slice bA bN bC, .slice qA qN qC, .int .i64 fin] 41)) (.cells #[.int .i64 0, .int .i64 0, .int .i64 0, .int .i64 0, .slice none 0 0, .slice none 0 0, .int .i64 0, .slice none 0 0, .slice none 0 0, .int .i64 0] 41) (by simp)).trans (heap_alloc_new w (.cells #[.int .i64 r0, .int .i64 r1, .int .i64 r2, .int .i64 r3, .slice mA mN mC, .slice sA sN sC, .int .i64 pc, .slice bA bN bC, .slice qA qN qC, .int .i64 fin] 41)))
 have X2 := Kept.mk (heap_alloc2_new w (.cells #[.int .i64 r0, .int .i64 r1, .int .i64 r2, .int .i64 r3, .slice mA mN mC, .slice sA sN sC, .int .i64 pc, .slice bA bN bC, .slice qA qN qC, .int .i64 fin] 41) (.cells #[.int .i64 0, .int .i64 0, .int .i64 0, .int .i64 0, .slice none 0 0, .slice none 0 0, .int .i64 0, .slice none 0 0, .slice none 0 0, .int .i64 0] 41))
 have SZ : ((w.alloc (.cells #[.int .i64 r0, .int .i64 r1, .int .i64 r2, .int .i64 r3, .slice mA mN mC, .slice sA sN sC, .int .i64 pc, .slice bA bN bC, .slice qA qN qC, .int .i64 fin] 41)).alloc (.cells #[.int .i64 0, .int .i64 0, .int .i64 0, .int .i64 0, .slice none 0 0, .slice none 0 0, .int .i64 0, .slice none 0 0, .slice none 0 0, .int .i64 0] 41)).heap.size = w.heap.size + 2 := by simp
 have W2 := Kept.mk bb
 have RST : StAt ((w.alloc (.cells #[.int .i64 r0, .int .i64 r1, .int .i64 r2, .int .i64 r3, .slice mA mN mC, .slice sA sN sC, .int .i64 pc, .slice bA bN bC, .slice qA qN qC, .int .i64 fin] 41)).alloc (.cells #[.int .i64 0, .int .i64 0, .int .i64 0, .int .i64 0, .slice none 0 0, .slice none 0 0, .int .i64 0, .slice none 0 0, .slice none 0 0, .int .i64 0] 41)) w.heap.size ⟨r0, r1, r2, r3, ⟨mA, mN, mC⟩, ⟨sA, sN, sC⟩, pc⟩ m.st := ⟨HC.out.st.r0, HC.out.st.r1, HC.out.st.r2, HC.out.st.r3, HC.out.st.mem.at_ rfl bb, HC.out.st.mem.c, HC.out.st.stack.at_ rfl bb, HC.out.st.stack.c, HC.out.st.pc⟩
 have RB : RdAtE ((w.alloc (.cells #[.int .i64 r0, .int .i64 r1, .int .i64 r2, .int .i64 r3, .slice mA mN mC, .slice sA sN sC, .int .i64 pc, .slice bA bN bC, .slice qA qN qC, .int .i64 fin] 41)).alloc (.cells #[.int .i64 0, .int .i64 0, .int .i64 0, .int .i64 0, .slice none 0 0, .slice none 0 0, .int .i64 0, .slice none 0 0, .slice none 0 0, .int .i64 0] 41)) w.heap.size ⟨bA, bN, bC⟩ m.buf := ⟨HC.out.buf.n, Reads.below HC.out.buf.r bb⟩
 have RQ := HC.out.rsb.at_ rfl bb
 clear bb
 generalize (w.alloc (.cells #[.int .i64 r0, .int .i64 r1, .int .i64 r2, .int .i64 r3, .slice mA mN mC, .slice sA sN sC, .int .i64 pc, .slice bA bN bC, .slice qA qN qC, .int .i64 fin] 41)).alloc (.cells #[.int .i64 0, .int .i64 0, .int .i64 0, .int .i64 0, .slice none 0 0, .slice none 0 0, .int .i64 0, .slice none 0 0, .slice none 0 0, .int .i64 0] 41) = w2 at *
 refine cstill_region w2 w.heap.size (w.heap.size + 2) ⟨⟨r0, r1, r2, r3, ⟨mA, mN, mC⟩, ⟨sA, sN, sC⟩, pc⟩, ⟨bA, bN, bC⟩, ⟨qA, qN, qC⟩, fin⟩ m X1 RST RB RQ hml hsl hbl hrl SZ (by omega) _ ?_
 intro u3 u4 u5 u6 u7 u8 u9 u10 u11 u12 u13 u14 w9 st s5 s8 o2 o5 o8 d25 d28 d58 hx9 hg9
 obtain ⟨t0, t1, t2, t3, ⟨eA, eN, eC⟩, ⟨fA, fN, fC⟩, tpc⟩ := st
 obtain ⟨gA, gN, gC⟩ := s5
 obtain ⟨hA, hN, hC⟩ := s8
 have O9 : Kept (CfOwn w9 (w.heap.size + 2) ⟨⟨t0, t1, t2, t3, ⟨eA, eN, eC⟩, ⟨fA, fN, fC⟩, tpc⟩, ⟨gA, gN, gC⟩, ⟨hA, hN, hC⟩, fin⟩ m) := ⟨⟨o2, o5, o8, HC.out.fin, d25, d28, d58⟩⟩
 have K2 := Kept.mk ((hg9.block (w.heap.size + 1) (by omega) (by intro h; injection h with h; omega)).trans X2.out)
 have W9 := Kept.mk (W2.out.trans (q2A hg9 (by omega)))
 have Y1 := fun j => cell_of_row w9 w.heap.size j _ _ _ hx9
 have Y2 := fun j => cell_of_row w9 (w.heap.size + 1) j _ _ _ K2.out
 have F2 := fun j => frozen_of_row w9 (w.heap.size + 1) j _ _ K2.out
 simp only [Cnf.cs] at Y1
 clear o2 o5 o8 d25 d28 d58 hx9 hg9 X1 X2 W2 RST RB RQ
 go_wp2_with fail
 have x4 := q11 (w := w9) (g := w.heap.size + 1) Cnf.zero ⟨⟨t0, t1, t2, t3, ⟨eA, eN, eC⟩, ⟨fA, fN, fC⟩, tpc⟩, ⟨gA, gN, gC⟩, ⟨hA, hN, hC⟩, fin⟩ K2.out
 have wb := below10 (g := w.heap.size + 1) ⟨⟨t0, t1, t2, t3, ⟨eA, eN, eC⟩, ⟨fA, fN, fC⟩, tpc⟩, ⟨gA, gN, gC⟩, ⟨hA, hN, hC⟩, fin⟩ W9.out (by omega)
 dsimp only at x4 wb
 refine q0C _ [Cnf.v ⟨⟨t0, t1, t2, t3, ⟨eA, eN, eC⟩, ⟨fA, fN, fC⟩, tpc⟩, ⟨gA, gN, gC⟩, ⟨hA, hN, hC⟩, fin⟩] Try.results63 (.cons (.cell (cs := Cnf.cs ⟨⟨t0, t1, t2, t3, ⟨eA, eN, eC⟩, ⟨fA, fN, fC⟩, tpc⟩, ⟨gA, gN, gC⟩, ⟨hA, hN, hC⟩, fin⟩) (b := w.heap.size + 1) (off := 0) rfl rfl (q05 x4) Try.underlying41 rfl (by kernel_rfl)) .nil) rfl ?_
 refine ⟨⟨⟨t0, t1, t2, t3, ⟨eA, eN, eC⟩, ⟨fA, fN, fC⟩, tpc⟩, ⟨gA, gN, gC⟩, ⟨hA, hN, hC⟩, fin⟩, rfl, ?_, wb⟩
 refine CfOwn.lower (B := w.heap.size + 2) ?_ (by omega)
 iterate 10 refine CfOwn.far ?_ (by show w.heap.size + 1 < w.heap.size + 2; omega) _
 exact O9.out
end
end Go.Proofs.Ytchldbkjapnlcaa
