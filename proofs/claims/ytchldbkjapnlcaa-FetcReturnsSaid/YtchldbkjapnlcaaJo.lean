/- fetc: how many ways there are to fetch. fetc.ret, fetc.call: a return, a call is fetched. fetc.call: the region that pushes. fetc.call: a call is fetched. fetc.entry: an entry is begun. fetc.Fetch: an instruction is fetched, or none. -/
import Derived.Test.YtchldbkjapnlcaaJn
set_option linter.unusedVariables false
set_option linter.unusedSimpArgs false
section
namespace Go.Proofs.Ytchldbkjapnlcaa
open Go.RowKit

set_option maxRecDepth 100000 in
set_option maxHeartbeats 2000000 in
theorem pguesses_any (p : Prg) (il : List Inst) (c : Cnf) (m : Conf) (w : World) (hp : PIs w p il) (hc : CfIs w c m) (hln : m.buf.length ≤ 1000000) (hrl : m.rsb.length ≤ 1000000) :
  Calls Try.prog 42 #[p.v, c.v] w fun en w' => en = .returned (.int .i64 (guessesOf p.window il m)) ∧ Below w.heap.size w w' := by
 have HP := Kept.mk hp
 have HN := Kept.mk hp.n
 have hpm := hp.m
 clear hp
 obtain ⟨⟨r0, r1, r2, r3, ⟨mA, mN, mC⟩, ⟨sA, sN, sC⟩, pc⟩, ⟨bA, bN, bC⟩, ⟨qA, qN, qC⟩, fin⟩ := c
 obtain ⟨⟨q0, q1, q2, q3, mem, stack, qc⟩, l, rsb, qf⟩ := m
 obtain ⟨⟨h0, h1, h2, h3, hmem, hstk, hpc⟩, ⟨hbn, hbc, hbr⟩, ⟨hqn, hqc, hqr⟩, hf⟩ := hc
 simp only at h0 h1 h2 h3 hpc hf hbn hbc hbr hln hqn hqc hqr hrl
 subst h0 h1 h2 h3 hpc hf hbn hqn
 clear hmem hstk hbr hqr
 unfold guessesOf
 simp only
 have HB := Kept.mk ((below_alloc_self w (.cells p.cs.toArray 33)).alloc (by simp) (.cells (Cnf.cs ⟨⟨r0, r1, r2, r3, ⟨mA, mN, mC⟩, ⟨sA, sN, sC⟩, pc⟩, ⟨bA, l.length, bC⟩, ⟨qA, rsb.length, qC⟩, fin⟩).toArray 41))
 generalize hRES : (if fin ≠ 0 ∨ pc = -1 ∨ p.window ≤ (l.length : Int) then 0 else (if (instAt il pc).kind = 5 then (2 : Int) else if (instAt il pc).kind = 7 ∨ ((instAt il pc).kind = 9 ∧ rsb = []) then (il.length : Int) + 1 else 1)) = RES
 have HRES := Kept.mk hRES
 clear hRES
 go_enter Try.func42, Try.ntmps42
 go_wp2_with fail
 refine (final_any ⟨⟨r0, r1, r2, r3, ⟨mA, mN, mC⟩, ⟨sA, sN, sC⟩, pc⟩, ⟨bA, l.length, bC⟩, ⟨qA, rsb.length, qC⟩, fin⟩ _).mono ?_
 rintro en w1 ⟨rfl, b1⟩
 have X0 := (b1.block w.heap.size (by simp; omega)).trans ((heap_alloc_old _ _ (by simp)).trans (heap_alloc_new w (.cells p.cs.toArray 33)))
 have X1 := (b1.block (w.heap.size + 1) (by simp)).trans (heap_alloc2_new w (.cells p.cs.toArray 33) (.cells (Cnf.cs ⟨⟨r0, r1, r2, r3, ⟨mA, mN, mC⟩, ⟨sA, sN, sC⟩, pc⟩, ⟨bA, l.length, bC⟩, ⟨qA, rsb.length, qC⟩, fin⟩).toArray 41))
 have Y0 := fun j => cell_of_row w1 w.heap.size j _ _ _ X0
 have Y1 := fun j => cell_of_row w1 (w.heap.size + 1) j _ _ _ X1
 simp only [Prg.cs, Cnf.cs] at Y0 Y1
 have W1 := Kept.mk (HB.out.trans (b1.mono HB.out.size))
 have KX0 := Kept.mk X0
 have KX1 := Kept.mk X1
 have hs0 : w.heap.size < w1.heap.size := (Array.getElem?_eq_some_iff.1 X0).1
 have hs1 : w.heap.size + 1 < w1.heap.size := (Array.getElem?_eq_some_iff.1 X1).1
 clear X0 X1 b1
 by_cases hf : fin = 0
 case neg =>
  have hf' : decide (fin ≠ 0) = true := by simp [hf]
  have HG := Kept.mk (HRES.out.symm.trans (if_pos (.inl hf)))
  generalize decide (fin ≠ 0) = d at *
  subst hf'
  clear hf HRES
  go_wp2_with fail
  go_ret
  exact ⟨by rw [HG.out]; rfl, W1.out⟩
 subst hf
 simp only [show decide ((0 : Int) ≠ 0) = false from rfl]
 by_cases hpc : pc = -1
 case pos =>
  subst hpc
  have HG := Kept.mk (HRES.out.symm.trans (if_pos (.inr (.inl rfl))))
  clear HRES
  go_wp2_with fail
  go_ret
  exact ⟨by rw [HG.out]; rfl, W1.out⟩
 have hpc' : (pc == -1) = false := by simp [hpc]
 by_cases hwn : p.window ≤ (l.length : Int)
 case pos =>
  have HG := Kept.mk (HRES.out.symm.trans (if_pos (.inr (.inr hwn))))
  clear hpc HRES
  go_wp2_with fail
  go_ret
  exact ⟨by rw [HG.out]; rfl, W1.out⟩
 have HR1 := Kept.mk (HRES.out.symm.trans (if_neg (fun h => by
  rcases h with h | h | h
  ·exact h rfl
  ·exact hpc h
  ·exact hwn h)))
 clear HRES
 generalize hx : instAt il pc = x at HR1
 have HAT : Kept (∀ w1, PIs w1 p il → Calls Try.prog 61 #[p.v, .int .i64 pc] w1 fun en w' => en = .returned x.v ∧ Below w1.heap.size w1 w') := ⟨fun w1 h => by rw [← hx]; exact at8 p il pc w1 h⟩
 clear hx hpc
 obtain ⟨kind, op, xd, ar, an, br, bn, name, target⟩ := x
 simp only at HR1
 go_wp2_with fail
 refine (HAT.out _ (HP.out.past W1.out)).mono ?_
 rintro en w2 ⟨rfl, b2⟩
 have X0 := (b2.block w.heap.size hs0).trans KX0.out
 have X1 := (b2.block (w.heap.size + 1) hs1).trans KX1.out
 have Z0 := fun j => cell_of_row w2 w.heap.size j _ _ _ X0
 have Z1 := fun j => cell_of_row w2 (w.heap.size + 1) j _ _ _ X1
 simp only [Prg.cs, Cnf.cs] at Z0 Z1
 have W2 := Kept.mk (W1.out.trans (b2.mono W1.out.size))
 have ht0 : w.heap.size < w2.heap.size := (Array.getElem?_eq_some_iff.1 X0).1
 have ht1 : w.heap.size + 1 < w2.heap.size := (Array.getElem?_eq_some_iff.1 X1).1
 clear X0 X1 b2 Y0 Y1 KX0 KX1 hs0 hs1
 have W3 := fun o => Below.alloc W2.out (Nat.le_of_lt ht0) o
 by_cases hk5 : kind = 5
 ·have HG := Kept.mk (HR1.out.trans (if_pos hk5))
  subst hk5
  clear HR1
  go_wp2_with fail
  go_ret
  exact ⟨by rw [HG.out]; rfl, W3 _⟩
 have HR2 := Kept.mk (HR1.out.trans (if_neg hk5))
 have k5 : (kind == 5) = false := by simp [hk5]
 by_cases hk7 : kind = 7
 ·have HG := Kept.mk (HR2.out.trans (if_pos (.inl hk7)))
  subst hk7
  clear HR1 HR2
  have hn1 : (p.n : Int) + 1 ≤ 1001 := by omega
  go_wp2_with fail
  go_ret
  exact ⟨by rw [HG.out, ← HN.out]; rfl, W3 _⟩
 have k7 : (kind == 7) = false := by simp [hk7]
 by_cases hk9 : kind = 9
 ·subst hk9
  cases rsb with
  | nil =>
   have HG := Kept.mk (HR2.out.trans (if_pos (.inr ⟨rfl, rfl⟩)))
   clear HR1 HR2
   go_wp2_with fail
   go_ret
   exact ⟨by rw [HG.out, ← HN.out]; rfl, W3 _⟩
  | cons z t =>
   have HG : Kept (RES = 1) := ⟨HR2.out.trans (if_neg (fun h => by
    rcases h with h | h
    ·exact absurd h (by omega)
    ·exact absurd h.2 (by simp)))⟩
   have hz : ((z :: t).length : Int) ≠ 0 := by simp only [List.length_cons]; omega
   have hz' : (((z :: t).length : Int) == 0) = false := by rw [beq_eq_false_iff_ne]; exact hz
   generalize (z :: t).length = n at *
   clear HR1 HR2 hz
   go_wp2_with fail
   go_ret
   exact ⟨by rw [HG.out]; rfl, W3 _⟩
 have k9 : (kind == 9) = false := by simp [hk9]
 have HG := Kept.mk (HR2.out.trans (if_neg (by omega)))
 clear HR1 HR2 hk5 hk7 hk9
 go_wp2_with fail
 go_ret
 exact ⟨by rw [HG.out]; rfl, W3 _⟩
end Go.Proofs.Ytchldbkjapnlcaa
end
section
namespace Go.Proofs.Ytchldbkjapnlcaa
open Go.RowKit

theorem ent_set0 {w : World} {g : Nat} {t : TypeId} (old e : Ent) (h : w.heap[g]? = some (.cells old.cs.toArray t (0, 0))) :
  ((((((((w.setCell ⟨g, 0, none⟩ (.int .i64 e.pc)).setCell ⟨g, 1, none⟩ (.int .i64 e.val)).setCell ⟨g, 2, none⟩ (.int .i64 e.addr)).setCell ⟨g, 3, none⟩ (.int .i64 e.frm)).setCell ⟨g, 4, none⟩ (.int .i64 e.next)).setCell ⟨g, 5, none⟩ (.bool e.done)).setCell ⟨g, 6, none⟩ (.bool e.known)).setCell ⟨g, 7, none⟩ (.bool e.fault)).heap[g]? = some (.cells e.cs.toArray t (0, 0)) := by
 rw [heap_setCell_same _ g 7 _ t _ (heap_setCell_same _ g 6 _ t _ (heap_setCell_same _ g 5 _ t _ (heap_setCell_same _ g 4 _ t _ (heap_setCell_same _ g 3 _ t _ (heap_setCell_same _ g 2 _ t _ (heap_setCell_same _ g 1 _ t _ (heap_setCell_same _ g 0 _ t _ h)))))))]
 simp [Ent.cs]
theorem below8 {w0 w : World} {B g : Nat} (e : Ent) (h : Below B w0 w) (hg : B ≤ g) : Below B w0 ((((((((w.setCell ⟨g, 0, none⟩ (.int .i64 e.pc)).setCell ⟨g, 1, none⟩ (.int .i64 e.val)).setCell ⟨g, 2, none⟩ (.int .i64 e.addr)).setCell ⟨g, 3, none⟩ (.int .i64 e.frm)).setCell ⟨g, 4, none⟩ (.int .i64 e.next)).setCell ⟨g, 5, none⟩ (.bool e.done)).setCell ⟨g, 6, none⟩ (.bool e.known)).setCell ⟨g, 7, none⟩ (.bool e.fault)) := by
 iterate 8 refine Below.setCell ?_ (by exact hg) _
 exact h
theorem grown8 (w : World) (g : Nat) (e : Ent) : w.grownBy ((((((((w.setCell ⟨g, 0, none⟩ (.int .i64 e.pc)).setCell ⟨g, 1, none⟩ (.int .i64 e.val)).setCell ⟨g, 2, none⟩ (.int .i64 e.addr)).setCell ⟨g, 3, none⟩ (.int .i64 e.frm)).setCell ⟨g, 4, none⟩ (.int .i64 e.next)).setCell ⟨g, 5, none⟩ (.bool e.done)).setCell ⟨g, 6, none⟩ (.bool e.known)).setCell ⟨g, 7, none⟩ (.bool e.fault)) (some g) :=
 (((((((grown_setCell w ⟨g, 0, none⟩ _).trans (grown_setCell _ ⟨g, 1, none⟩ _)).trans (grown_setCell _ ⟨g, 2, none⟩ _)).trans (grown_setCell _ ⟨g, 3, none⟩ _)).trans (grown_setCell _ ⟨g, 4, none⟩ _)).trans (grown_setCell _ ⟨g, 5, none⟩ _)).trans (grown_setCell _ ⟨g, 6, none⟩ _)).trans (grown_setCell _ ⟨g, 7, none⟩ _)
theorem grownBy_far {w0 w : World} {b : Nat} (h : w0.grownBy w (some b)) {p : Addr} (hp : w0.heap.size ≤ p.block) (u : Value) : w0.grownBy (w.setCell p u) (some b) :=
 ⟨h.os, h.tape, h.output, Nat.le_trans h.size (grown_setCell w p u).size, fun i hi hne => (heap_setCell_other w p i u (by omega)).trans (h.block i hi hne)⟩
theorem grownBy_at {w0 w : World} {b : Nat} (h : w0.grownBy w (some b)) {p : Addr} (hp : p.block = b) (u : Value) : w0.grownBy (w.setCell p u) (some b) := by
 subst hp
 exact h.trans (grown_setCell w p u)
/-- What becomes of a machine's box as an entry is begun. -/
def PEnt (b : Nat) (c : Cnf) (rsb : List Int) (e : Ent) (rsb' : List Int) (w : World) (en : Ending) (w' : World) : Prop :=
 ∃ s : Sl, en = .returned e.v ∧ w'.heap[b]? = some (.cells (Cnf.cs { c with rsb := s }).toArray 41 (0, 0)) ∧ w.grownBy w' (some b) ∧
  ((s = c.rsb ∧ rsb' = rsb) ∨ OwnI w' w.heap.size (.slice s.A s.n s.c) rsb')

set_option maxRecDepth 100000 in
set_option maxHeartbeats 1000000 in
theorem pret_none (b : Nat) (c : Cnf) (e : Ent) (guess : Int) (w : World) (hb : w.heap[b]? = some (.cells c.cs.toArray 41 (0, 0))) (hn : c.rsb.n = 0) :
  Calls Try.prog 101 #[.pointer (some ⟨b, 0, none⟩), e.v, .int .i64 guess] w (PEnt b c [] { e with next := guess } [] w) := by
 have hs : b < w.heap.size := (Array.getElem?_eq_some_iff.1 hb).1
 have HB := Kept.mk hb
 have Y := fun j => cell_of_row w b j _ _ _ hb
 obtain ⟨⟨r0, r1, r2, r3, ⟨mA, mN, mC⟩, ⟨sA, sN, sC⟩, pc⟩, ⟨bA, bN, bC⟩, ⟨qA, qN, qC⟩, fin⟩ := c
 simp only at hn
 subst hn
 simp only [Cnf.cs] at Y
 clear hb
 go_enter Try.func101, Try.ntmps101
 go_wp2_with fail
 refine (rpop_none qA qC _).mono ?_
 rintro en w1 ⟨rfl, b1⟩
 have HA0 := (below_alloc_self w (.cells #[.int .i64 e.pc, .int .i64 e.val, .int .i64 e.addr, .int .i64 e.frm, .int .i64 guess, .bool e.done, .bool e.known, .bool e.fault] 55)).alloc (by simp) (.cells #[.int .i64 0, .int .i64 0, .int .i64 0, .int .i64 0, .int .i64 0, .bool false, .bool false, .bool false] 55)
 have HA := Kept.mk (HA0.trans (b1.mono HA0.size))
 have X0 := (b1.block w.heap.size (by simp; omega)).trans ((heap_alloc_old _ _ (by simp)).trans (heap_alloc_new w (.cells #[.int .i64 e.pc, .int .i64 e.val, .int .i64 e.addr, .int .i64 e.frm, .int .i64 guess, .bool e.done, .bool e.known, .bool e.fault] 55)))
 have X1 := (b1.block (w.heap.size + 1) (by simp)).trans (heap_alloc2_new w (.cells #[.int .i64 e.pc, .int .i64 e.val, .int .i64 e.addr, .int .i64 e.frm, .int .i64 guess, .bool e.done, .bool e.known, .bool e.fault] 55) (.cells #[.int .i64 0, .int .i64 0, .int .i64 0, .int .i64 0, .int .i64 0, .bool false, .bool false, .bool false] 55))
 have Y0 := fun j => cell_of_row w1 w.heap.size j _ _ _ X0
 have Y1 := fun j => cell_of_row w1 (w.heap.size + 1) j _ _ _ X1
 have F1 := fun j => frozen_of_row w1 (w.heap.size + 1) j _ _ X1
 have KX := Kept.mk X1
 clear X0 X1 b1 Y
 go_wp2_with fail
 have x4 := ent_set0 (w := w1) (g := w.heap.size + 1) ⟨0, 0, 0, 0, 0, false, false, false⟩ { e with next := guess } KX.out
 have wb := below8 (g := w.heap.size + 1) { e with next := guess } HA.out (by omega)
 refine at_ret _ [Ent.v { e with next := guess }] Try.results101 (.cons (.cell (cs := Ent.cs { e with next := guess }) (b := w.heap.size + 1) (off := 0) rfl rfl (cells_of_block x4) Try.underlying55 rfl (by kernel_rfl)) .nil) rfl ?_
 exact ⟨⟨qA, 0, qC⟩, rfl, (wb.block b hs).trans HB.out, grown_below wb _, .inl ⟨rfl, rfl⟩⟩
set_option maxRecDepth 100000 in
set_option maxHeartbeats 1000000 in
theorem pret_some (b : Nat) (c : Cnf) (e : Ent) (guess : Int) (r : List Int) (x : Int) (w : World) (hb : w.heap[b]? = some (.cells c.cs.toArray 41 (0, 0))) (hr : RdIs w c.rsb (r ++ [x])) (hl : r.length ≤ 1000) :
  Calls Try.prog 101 #[.pointer (some ⟨b, 0, none⟩), e.v, .int .i64 guess] w (PEnt b c (r ++ [x]) { e with next := x } r w) := by
 have hs : b < w.heap.size := (Array.getElem?_eq_some_iff.1 hb).1
 have HB := Kept.mk hb
 have Y := fun j => cell_of_row w b j _ _ _ hb
 have F := fun j => frozen_of_row w b j _ _ hb
 obtain ⟨⟨r0, r1, r2, r3, ⟨mA, mN, mC⟩, ⟨sA, sN, sC⟩, pc⟩, ⟨bA, bN, bC⟩, ⟨qA, qN, qC⟩, fin⟩ := c
 obtain ⟨hn, hc, hrd⟩ := hr
 simp only [List.length_append, List.length_cons, List.length_nil, Nat.zero_add] at hn hc
 subst hn
 have HR : Kept (RdI w qA (r ++ [x])) := ⟨hrd⟩
 simp only [Cnf.cs] at Y
 clear hb hrd
 go_enter Try.func101, Try.ntmps101
 go_wp2_with fail
 refine (rpop_some qA qC r.length (r ++ [x]) _ (by simp) hc (HR.out.past ((below_alloc_self w (.cells #[.int .i64 e.pc, .int .i64 e.val, .int .i64 e.addr, .int .i64 e.frm, .int .i64 guess, .bool e.done, .bool e.known, .bool e.fault] 55)).alloc (by simp) (.cells #[.int .i64 0, .int .i64 0, .int .i64 0, .int .i64 0, .int .i64 0, .bool false, .bool false, .bool false] 55))) (by omega)).mono ?_
 rintro en w1 ⟨v, rfl, hv, b1⟩
 simp only [List.getElem_concat_length, List.take_left'] at hv ⊢
 obtain ⟨⟨vA, vN, vC⟩, rfl, hv⟩ := hv.sl
 have HA0 := (below_alloc_self w (.cells #[.int .i64 e.pc, .int .i64 e.val, .int .i64 e.addr, .int .i64 e.frm, .int .i64 guess, .bool e.done, .bool e.known, .bool e.fault] 55)).alloc (by simp) (.cells #[.int .i64 0, .int .i64 0, .int .i64 0, .int .i64 0, .int .i64 0, .bool false, .bool false, .bool false] 55)
 have HA := Kept.mk (HA0.trans (b1.mono HA0.size))
 have X0 := (b1.block w.heap.size (by simp; omega)).trans ((heap_alloc_old _ _ (by simp)).trans (heap_alloc_new w (.cells #[.int .i64 e.pc, .int .i64 e.val, .int .i64 e.addr, .int .i64 e.frm, .int .i64 guess, .bool e.done, .bool e.known, .bool e.fault] 55)))
 have X1 := (b1.block (w.heap.size + 1) (by simp)).trans (heap_alloc2_new w (.cells #[.int .i64 e.pc, .int .i64 e.val, .int .i64 e.addr, .int .i64 e.frm, .int .i64 guess, .bool e.done, .bool e.known, .bool e.fault] 55) (.cells #[.int .i64 0, .int .i64 0, .int .i64 0, .int .i64 0, .int .i64 0, .bool false, .bool false, .bool false] 55))
 have KB := Kept.mk ((HA.out.block b hs).trans HB.out)
 have Y0 := fun j => cell_of_row w1 w.heap.size j _ _ _ X0
 have F0 := fun j => frozen_of_row w1 w.heap.size j _ _ X0
 have Y1 := fun j => cell_of_row w1 (w.heap.size + 1) j _ _ _ X1
 have F1 := fun j => frozen_of_row w1 (w.heap.size + 1) j _ _ X1
 have Y2 := fun j => cell_of_row w1 b j _ _ _ KB.out
 have F2 := fun j => frozen_of_row w1 b j _ _ KB.out
 have KX := Kept.mk X1
 have HV := Kept.mk hv
 simp only [Cnf.cs] at Y2
 clear X0 X1 b1 Y hv F
 go_wp2_with fail
 have x3 : ((w1.setCell ⟨w.heap.size, 4, none⟩ (.int .i64 x)).setCell ⟨b, 8, none⟩ (.slice vA vN vC)).heap[b]? = some (.cells (Cnf.cs ⟨⟨r0, r1, r2, r3, ⟨mA, mN, mC⟩, ⟨sA, sN, sC⟩, pc⟩, ⟨bA, bN, bC⟩, ⟨vA, vN, vC⟩, fin⟩).toArray 41 (0, 0)) :=
  heap_setCell_same _ b 8 _ _ _ (heap_set_far KB.out (by show w.heap.size ≠ b; omega))
 have KXA := heap_set_far (p := ⟨b, 8, none⟩) (u := .slice vA vN vC) (heap_set_far (p := ⟨w.heap.size, 4, none⟩) (u := .int .i64 x) KX.out (by show w.heap.size ≠ w.heap.size + 1; omega)) (by show b ≠ w.heap.size + 1; omega)
 have GA := grownBy_at (p := ⟨b, 8, none⟩) (grownBy_far (grown_below HA.out (some b)) (p := ⟨w.heap.size, 4, none⟩) (Nat.le_refl _) (.int .i64 x)) rfl (.slice vA vN vC)
 have x4 := ent_set0 (g := w.heap.size + 1) ⟨0, 0, 0, 0, 0, false, false, false⟩ { e with next := x } KXA
 have g8 := grown8 ((w1.setCell ⟨w.heap.size, 4, none⟩ (.int .i64 x)).setCell ⟨b, 8, none⟩ (.slice vA vN vC)) (w.heap.size + 1) { e with next := x }
 have hb1 : b < ((w1.setCell ⟨w.heap.size, 4, none⟩ (.int .i64 x)).setCell ⟨b, 8, none⟩ (.slice vA vN vC)).heap.size := (Array.getElem?_eq_some_iff.1 x3).1
 refine at_ret _ [Ent.v { e with next := x }] Try.results101 (.cons (.cell (cs := Ent.cs { e with next := x }) (b := w.heap.size + 1) (off := 0) rfl rfl (cells_of_block x4) Try.underlying55 rfl (by kernel_rfl)) .nil) rfl ?_
 refine ⟨⟨vA, vN, vC⟩, rfl, (g8.block b hb1 (by intro h; injection h with h; omega)).trans x3, ?_, .inr (OwnI.lower (B := w.heap.size + 2) ?_ (by omega))⟩
 ·iterate 8 refine grownBy_far ?_ (by show w.heap.size ≤ w.heap.size + 1; omega) _
  exact GA
 ·iterate 8 refine OwnI.far ?_ (by show w.heap.size + 1 < w.heap.size + 2; omega) _
  refine OwnI.far (OwnI.far ?_ (by show w.heap.size < w.heap.size + 2; omega) _) (by show b < w.heap.size + 2; omega) _
  have := HV.out
  simpa using this
end Go.Proofs.Ytchldbkjapnlcaa
end
section
namespace Go.Proofs.Ytchldbkjapnlcaa
open Go.RowKit

noncomputable def regPca (id : Nat) : Code := (Try.f100.body.bind (findRegion id)).getD .skip
def pcaCs (c : Cnf) (done : Nat → Bool) (vals : Nat → Value) : List Value := [.int .i64 c.st.r0, .int .i64 c.st.r1, .int .i64 c.st.r2, .int .i64 c.st.r3, .slice c.st.mem.A c.st.mem.n c.st.mem.c, .slice c.st.stack.A c.st.stack.n c.st.stack.c, .int .i64 c.st.pc, .slice c.buf.A c.buf.n c.buf.c, (if done 11 = true then vals 8 else .slice c.rsb.A c.rsb.n c.rsb.c), .int .i64 c.fin]
/-- What holds while the region goes on. -/
structure PZ (w0 : World) (b : Nat) (c : Cnf) (l : List Int) (done : Nat → Bool) (vals : Nat → Value) (w : World) : Prop where
 s : w0.heap.size ≤ w.heap.size
 g : w0.grownBy w (some b)
 bl : done 11 = false → Below w0.heap.size w0 w
 q : done 8 = true → OwnI w w0.heap.size (vals 8) l
 x : w.heap[b]? = some (.cells (pcaCs c done vals).toArray 41 (0, 0))
section
variable {w0 w : World} {b : Nat} {c : Cnf} {l : List Int} {done : Nat → Bool} {vals : Nat → Value}
theorem PZ.start (h : w0.heap[b]? = some (.cells c.cs.toArray 41 (0, 0))) : PZ w0 b c l (fun _ => false) (fun _ => undef) w0.drew := by
 refine ⟨Nat.le_refl _, grown_below (Below.refl _ _).drew _, fun _ => (Below.refl _ _).drew, fun h => (by cases h), ?_⟩
 have h2 : w0.drew.heap[b]? = some (.cells c.cs.toArray 41 (0, 0)) := h
 simpa [pcaCs, Cnf.cs] using h2
theorem PZ.other {i : Nat} {v : Value} {w' : World} (h : PZ w0 b c l done vals w) (h8 : ¬ 8 = i) (h11 : ¬ 11 = i) (hb : Below w.heap.size w w') :
  PZ w0 b c l (fun j => done j || j == i) (fun j => if j = i then v else vals j) w' := by
 have e : ∀ k, ¬ k = i → (done k || k == i) = done k := fun k hk => by rw [show (k == i) = false by simpa using hk, Bool.or_false]
 refine ⟨Nat.le_trans h.s hb.size, h.g.trans (grown_below hb _), fun hd => ?_, fun hd => ?_, ?_⟩
 ·simp only [e 11 h11] at hd
  exact (h.bl hd).trans (hb.mono h.s)
 ·simp only [e 8 h8] at hd
  simp only [if_neg h8]
  exact (h.q hd).past hb
 ·have := heap_keep h.x hb
  simp only [pcaCs, e 11 h11, if_neg h8] at this ⊢
  exact this
theorem PZ.sl8 (h : PZ w0 b c l done vals w) (hd : done 8 = true) : ∃ s : Sl, vals 8 = .slice s.A s.n s.c ∧ OwnI w w0.heap.size (.slice s.A s.n s.c) l := by
 have ho := h.q hd
 obtain ⟨s, e, ho'⟩ := ho.sl
 exact ⟨s, e, e ▸ ho'⟩
theorem PZ.mk8 {v : Value} {w' : World} (h : PZ w0 b c l done vals w) (ho : OwnI w' w.heap.size v l) (hb : Below w.heap.size w w') (hst : done 11 = false) :
  PZ w0 b c l (fun j => done j || j == 8) (fun j => if j = 8 then v else vals j) w' := by
 refine ⟨Nat.le_trans h.s hb.size, h.g.trans (grown_below hb _), fun _ => (h.bl hst).trans (hb.mono h.s), fun hd => ?_, ?_⟩
 ·exact ho.lower h.s
 ·have := heap_keep h.x hb
  simp only [pcaCs] at this ⊢
  simp only [hst, Bool.false_or, show (11 == 8) = false from rfl, Bool.false_eq_true, if_false] at this ⊢
  exact this
theorem PZ.st11 (h : PZ w0 b c l done vals w) (_ : done 8 = true) (hi : done 11 = false) (hS : b < w0.heap.size) :
  PZ w0 b c l (fun j => done j || j == 11) (fun j => if j = 11 then undef else vals j) (w.setCell ⟨b, 8, none⟩ (vals 8)) := by
 refine ⟨Nat.le_trans h.s (grown_setCell w ⟨b, 8, none⟩ (vals 8)).size, h.g.trans (grown_setCell w ⟨b, 8, none⟩ (vals 8)), fun hd => (by simp at hd), fun hd => ?_, ?_⟩
 ·exact OwnI.far (h.q (by simpa using hd)) (by show b < w0.heap.size; omega) _
 ·have := heap_setCell_same w b 8 _ _ (vals 8) h.x
  simp only [pcaCs] at this ⊢
  rw [this]
  simp [hi]
end
set_option maxRecDepth 100000 in
set_option maxHeartbeats 4000000 in
theorem pcall_region {z0 z2 z3 z4 z6 z7 z8 z9 z10 z11 z12 z13 z14 z15 z16 z17 z18 z19 z20 z21 z22 z23 z24 z25 z26 z27 z28 z29 z30 z31 z32 z33 z34 z35 z36 z37 z38 z39 z40 z41 z42 z43 z44 z45 z46 z47 z48 : Value} (w0 : World) (b S5 : Nat) (c : Cnf) (e : Ent) (rsb l : List Int) (X : Kept (w0.heap[b]? = some (.cells c.cs.toArray 41 (0, 0)))) (XE : Kept (w0.heap[S5]? = some (.cells e.cs.toArray 55 (0, 0))))
  (hq : RdIs w0 c.rsb rsb) (hrl : rsb.length ≤ 1000) (hpc : -2 ≤ e.pc ∧ e.pc ≤ 1000000) (hl : lastTwo (rsb ++ [e.pc + 1]) = l) (hS : b < w0.heap.size) (hS5 : S5 < w0.heap.size) (hne : b ≠ S5) (Q : Exit → Act → World → Prop)
  (hQ : ∀ (u37 u38 u39 u40 u41 u42 u43 u44 u45 u46 u47 : Value) (w' : World) (s8 : Sl), OwnI w' w0.heap.size (.slice s8.A s8.n s8.c) l →
   w'.heap[b]? = some (.cells (Cnf.cs { c with rsb := s8 }).toArray 41 (0, 0)) → w0.grownBy w' (some b) → Q .normal ⟨#[z0, .pointer (some ⟨b, 0, none⟩), z2, z3, z4, .pointer (some ⟨S5, 0, none⟩), z6, z7, z8, z9, z10, z11, z12, z13, z14, z15, z16, z17, z18, z19, z20, z21, z22, z23, z24, z25, z26, z27, z28, z29, z30, z31, z32, z33, z34, z35, z36, u37, u38, u39, u40, u41, u42, u43, u44, u45, u46, u47, z48], []⟩ w') :
  Code.wp Try.prog (regPca 3) Q ⟨#[z0, .pointer (some ⟨b, 0, none⟩), z2, z3, z4, .pointer (some ⟨S5, 0, none⟩), z6, z7, z8, z9, z10, z11, z12, z13, z14, z15, z16, z17, z18, z19, z20, z21, z22, z23, z24, z25, z26, z27, z28, z29, z30, z31, z32, z33, z34, z35, z36, z37, z38, z39, z40, z41, z42, z43, z44, z45, z46, z47, z48], []⟩ w0 := by
 conv => arg 2; whnf
 refine region_tellz (fun done vals w => PZ w0 b c l done vals w) (b) (G := fun _ => True) (ts := [
   .is (Value.pointer (some ⟨b, 0, none⟩)),
   .is (Value.pointer (some ⟨b, 0, none⟩)),
   .is (Value.pointer (some ⟨b, 0, none⟩)),
   .is (Value.pointer (some ⟨b, 8, none⟩)),
   .is (.slice c.rsb.A c.rsb.n c.rsb.c),
   .is (Value.pointer (some ⟨S5, 0, none⟩)),
   .is (.int .i64 e.pc),
   .is (Value.int .i64 ((e.pc) + (1))),
   .turns (fun v _ => True) (fun _ _ => True),
   .is (Value.pointer (some ⟨b, 0, none⟩)),
   .is (Value.pointer (some ⟨b, 8, none⟩)),
   .sets (fun _ _ => True)])
  (fin := []) (cs := [(8, 11), (11, 8)]) ?z0 ?zg (by kernel_rfl) rfl (by kernel_rfl) (by kernel_rfl)
  ⟨trivial, trivial, trivial, trivial, trivial, trivial, trivial, trivial, grows_pure _, trivial, trivial, (fun _ _ _ _ _ => trivial), trivial⟩ (fun _ _ _ _ => trivial) ?cs (by omega) trivial
  ⟨?_, ?_, ?_, ?_, ?_, ?_, ?_, ?_, ?_, ?_, ?_, ?_, trivial⟩ ?_
 case z0 =>
  show _
  exact PZ.start X.out
 case zg =>
  intro i done vals w1 w2 v hti hni hZ hb
  have hz := hZ
  ·skip
   have hz : PZ w0 b c l done vals w1 := hz
   have h8 : ¬ 8 = i := by rintro rfl; cases hti
   have h11 : ¬ 11 = i := by rintro rfl; cases hti
   exact hz.other h8 h11 hb
 case cs =>
  intro p hp v w1 w2 hG hR hE
  simp only [List.mem_cons, List.not_mem_nil, or_false] at hp
  rcases hp with rfl | rfl
  ·exact hR
  ·exact hR
 ·intro done vals w1 hB _ hZ hni hcl hdn hd
  clear hd
  refine one_value (v := Value.pointer (some ⟨b, 0, none⟩)) rfl ?_ ⟨post_is rfl, noturn rfl⟩
  kernel_rfl
 ·intro done vals w1 hB _ hZ hni hcl hdn hd
  clear hd
  refine one_value (v := Value.pointer (some ⟨b, 0, none⟩)) rfl ?_ ⟨post_is rfl, noturn rfl⟩
  kernel_rfl
 ·intro done vals w1 hB _ hZ hni hcl hdn hd
  clear hd
  refine one_value (v := Value.pointer (some ⟨b, 0, none⟩)) rfl ?_ ⟨post_is rfl, noturn rfl⟩
  kernel_rfl
 ·intro done vals w1 hB _ hZ hni hcl hdn hd
  clear hd
  refine one_value (v := Value.pointer (some ⟨b, 8, none⟩)) rfl ?_ ⟨post_is rfl, noturn rfl⟩
  kernel_rfl
 ·intro done vals w1 hB _ hZ hni hcl hdn hd
  clear hd
  have hz : PZ w0 b c l done vals w1 := hZ
  have h9 := hcl 11 _ rfl (by kernel_rfl)
  refine one_value (v := .slice c.rsb.A c.rsb.n c.rsb.c) rfl ?_ ⟨post_is rfl, noturn rfl⟩
  exact exec_cell rfl (by kernel_rfl) (CellsAt.of_block hz.x 8 _ (by simp [pcaCs, h9])) Try.underlying22 rfl
 ·intro done vals w1 hB _ hZ hni hcl hdn hd
  clear hd
  refine one_value (v := Value.pointer (some ⟨S5, 0, none⟩)) rfl ?_ ⟨post_is rfl, noturn rfl⟩
  kernel_rfl
 ·intro done vals w1 hB _ hZ hni hcl hdn hd
  clear hd
  have hz : PZ w0 b c l done vals w1 := hZ
  refine one_value (v := .int .i64 e.pc) rfl ?_ ⟨post_is rfl, noturn rfl⟩
  exact exec_cell rfl (by kernel_rfl) (CellsAt.of_block (t := 55) (fr := (0, 0)) (cs := e.cs) ((hz.g.block S5 hS5 (by intro h; injection h with h; omega)).trans XE.out) 0 _ rfl) Try.underlying3 rfl
 ·intro done vals w1 hB _ hZ hni hcl hdn hd
  clear hd
  refine one_value (v := Value.int .i64 ((e.pc) + (1))) rfl ?_ ⟨post_is rfl, noturn rfl⟩
  exact Eq.trans (b := .ok (.value (.int .i64 (IntKind.i64.wrap ((e.pc) + (1))))) w1) (by kernel_rfl) (by rw [IntWalk.i64_in _ (by omega)])
 ·intro done vals w1 hB _ hZ hni hcl hdn hd
  clear hd
  have hz : PZ w0 b c l done vals w1 := hZ
  have h9 := hcl 11 _ rfl (by kernel_rfl)
  refine one_calls (f := 21) (args := #[.slice c.rsb.A c.rsb.n c.rsb.c, .int .i64 (e.pc + 1)]) (w1 := w1) rfl (by kernel_rfl) ?_
  rw [hq.n]
  refine (rpush c.rsb.A c.rsb.c rsb (e.pc + 1) w1 (hq.r.past (hz.bl h9)) (by omega)).mono ?_
  rintro e1 w2 ⟨v2, rfl, ho, hb2⟩
  rw [hl] at ho
  exact ⟨v2, rfl, post_turns rfl trivial (hB.trans (hb2.mono (by have := hB.size; omega))) trivial hb2.size trivial, fun _ => hz.mk8 ho hb2 h9⟩
 ·intro done vals w1 hB _ hZ hni hcl hdn hd
  clear hd
  refine one_value (v := Value.pointer (some ⟨b, 0, none⟩)) rfl ?_ ⟨post_is rfl, noturn rfl⟩
  kernel_rfl
 ·intro done vals w1 hB _ hZ hni hcl hdn hd
  clear hd
  refine one_value (v := Value.pointer (some ⟨b, 8, none⟩)) rfl ?_ ⟨post_is rfl, noturn rfl⟩
  kernel_rfl
 ·intro done vals w1 hB _ hZ hni hcl hdn hd
  clear hd
  have hz : PZ w0 b c l done vals w1 := hZ
  have hj := hdn 8 (by kernel_rfl)
  obtain ⟨s, es, ho⟩ := hz.sl8 hj
  have hst := grown_setCell w1 ⟨b, 8, none⟩ (vals 8)
  refine one_skips (w' := w1.setCell ⟨b, 8, none⟩ (vals 8)) rfl ?_ ⟨post_sets rfl (hB.setCell (Nat.le_refl _) _) trivial hst.size trivial, fun _ => hz.st11 hj hni hS⟩
  rw [vals_at es]
  exact exec_store rfl (by kernel_rfl) (by kernel_rfl) (run_store_sl1 (CellsAt.of_block hz.x 8 _ rfl) (frozen_of_row w1 b 8 _ _ hz.x) (by kernel_rfl))
 intro done vals w9 b9 _ hall hZ hr
 have hz : PZ w0 b c l done vals w9 := hZ
 obtain ⟨s8, e8, o8⟩ := hz.sl8 (hall 8 (by simp))
 have hx := hz.x
 simp only [pcaCs, hall 11 (by simp), if_true] at hx
 clear hr
 simp only [fillT, Tell.is, Tell.turns, Act.put, List.setIfInBounds_toArray, List.set_cons_zero, List.set_cons_succ]
 rw [e8] at hx
 exact hQ _ _ _ _ _ _ _ _ _ _ _ w9 s8 o8 hx hz.g
end Go.Proofs.Ytchldbkjapnlcaa
end
section
namespace Go.Proofs.Ytchldbkjapnlcaa
open Go.RowKit

def callFault (il : List Inst) (m : Conf) : Bool := match realOf il m.st.stack m.buf with
 | none => true
 | some s => decide (4 ≤ s.length)
theorem preal_len (p : Prg) (il : List Inst) (A : Option Addr) (c : Nat) (s : List Int) (A' : Option Addr) (c' : Nat) (l : List Ent) (w : World) (hp : PIs w p il)
  (hs : RdI w A s) (hsn : s.length ≤ 1000) (hl : RdE w A' l) (hlc : l.length ≤ c') (hln : l.length ≤ 1000) :
  Calls Try.prog 26 #[p.v, .slice A s.length c, .slice A' l.length c', .int .i64 (l.length : Int)] w (fun en w' => ∃ s1 : Sl, en = .returned (.tuple #[.slice s1.A s1.n s1.c, .bool (realOf il s l).isSome]) ∧ s1.n = ((realOf il s l).getD []).length ∧ Below w.heap.size w w') := by
 refine (real_any p il A c s A' c' l (l.length : Int) w hp.n (Nat.le_trans hp.m (by omega)) hp.r hs hsn hl hlc (by omega)).mono ?_
 rintro en w' h
 obtain ⟨v, e, hv, hb⟩ := h.out
 rw [show ((l.length : Int)).toNat = l.length by omega, List.take_length] at e hv
 cases hr : realOf il s l with
 | none =>
  rw [hr] at e hv
  simp only at hv
  subst hv
  exact ⟨⟨none, 0, 0⟩, e, rfl, hb⟩
 | some x =>
  rw [hr] at e hv
  simp only at hv
  obtain ⟨A, c, rfl, _, _⟩ := hv.shape
  exact ⟨⟨A, x.length, c⟩, e, rfl, hb⟩
set_option maxRecDepth 100000 in
set_option maxHeartbeats 4000000 in
theorem pcall_any (p : Prg) (il : List Inst) (b : Nat) (c : Cnf) (m : Conf) (e : Ent) (w : World) (hp : PIs w p il) (hb : w.heap[b]? = some (.cells c.cs.toArray 41 (0, 0))) (hc : CfIs w c m)
  (hsl : m.st.stack.length ≤ 1000) (hbl : m.buf.length ≤ 1000) (hrl : m.rsb.length ≤ 1000) (hpc : -2 ≤ e.pc ∧ e.pc ≤ 1000000) :
  Calls Try.prog 100 #[p.v, .pointer (some ⟨b, 0, none⟩), e.v] w (PEnt b c m.rsb { e with done := true, fault := callFault il m } (lastTwo (m.rsb ++ [e.pc + 1])) w) := by
 have hs : b < w.heap.size := (Array.getElem?_eq_some_iff.1 hb).1
 have HB := Kept.mk hb
 have HP := Kept.mk hp
 have HC := Kept.mk hc
 obtain ⟨⟨r0, r1, r2, r3, ⟨mA, mN, mC⟩, ⟨sA, sN, sC⟩, pc⟩, ⟨bA, bN, bC⟩, ⟨qA, qN, qC⟩, fin⟩ := c
 obtain ⟨⟨q0, q1, q2, q3, mem, stack, qc⟩, buf, rsb, qf⟩ := m
 obtain ⟨⟨h0, h1, h2, h3, hmem, ⟨hsn, hsc, hsr⟩, hpc'⟩, ⟨hbn, hbc, hbr⟩, ⟨hqn, hqc, hqr⟩, hf⟩ := hc
 simp only at h0 h1 h2 h3 hpc' hf hbn hbc hbr hbl hqn hqc hqr hrl hsn hsc hsr hsl
 subst h0 h1 h2 h3 hpc' hf hbn hqn hsn
 have HS : Kept (RdI w sA stack) := ⟨hsr⟩
 have HE : Kept (RdE w bA buf) := ⟨hbr⟩
 have HQ : Kept (RdI w qA rsb) := ⟨hqr⟩
 unfold callFault
 simp only
 have HRL : Kept (∀ w1, PIs w1 p il → RdI w1 sA stack → RdE w1 bA buf → Calls Try.prog 26 #[p.v, .slice sA stack.length sC, .slice bA buf.length bC, .int .i64 (buf.length : Int)] w1 (fun en w' => ∃ s1 : Sl, en = .returned (.tuple #[.slice s1.A s1.n s1.c, .bool (realOf il stack buf).isSome]) ∧ s1.n = ((realOf il stack buf).getD []).length ∧ Below w1.heap.size w1 w')) :=
  ⟨fun w1 h1 h2 h3 => preal_len p il sA sC stack bA bC buf w1 h1 h2 hsl h3 hbc hbl⟩
 clear hb hp hmem hsr hbr hqr
 obtain ⟨flt, hflt⟩ : ∃ flt, (match realOf il stack buf with | none => true | some s => decide (4 ≤ s.length)) = flt := ⟨_, rfl⟩
 rw [hflt]
 have hfl : (!(realOf il stack buf).isSome || decide ((4 : Int) ≤ (((realOf il stack buf).getD []).length : Int))) = flt := by
  rw [← hflt]
  cases realOf il stack buf with
  | none => rfl
  | some s => simp; omega
 have HFL := Kept.mk hfl
 clear hflt hfl
 generalize (realOf il stack buf).isSome = ok at HRL HFL
 generalize ((realOf il stack buf).getD []).length = n at HRL HFL
 go_enter Try.func100, Try.ntmps100
 go_upto_region 1 with (fail)
 have bb := ((below_alloc_self w (.cells #[.int .i64 p.W, .int .i64 p.window, .int .i64 p.fuel, .int .i64 p.r0, .int .i64 p.r1, .int .i64 p.r2, .int .i64 p.r3, p.mems, p.labels, .slice p.A p.n p.c] 33)).alloc (by simp) (.cells #[.int .i64 e.pc, .int .i64 e.val, .int .i64 e.addr, .int .i64 e.frm, .int .i64 e.next, .bool e.done, .bool e.known, .bool e.fault] 55)).alloc (by simp; omega) (.cells #[.int .i64 0, .int .i64 0, .int .i64 0, .int .i64 0, .int .i64 0, .bool false, .bool false, .bool false] 55)
 have X3 : (((w.alloc (.cells #[.int .i64 p.W, .int .i64 p.window, .int .i64 p.fuel, .int .i64 p.r0, .int .i64 p.r1, .int .i64 p.r2, .int .i64 p.r3, p.mems, p.labels, .slice p.A p.n p.c] 33)).alloc (.cells #[.int .i64 e.pc, .int .i64 e.val, .int .i64 e.addr, .int .i64 e.frm, .int .i64 e.next, .bool e.done, .bool e.known, .bool e.fault] 55)).alloc (.cells #[.int .i64 0, .int .i64 0, .int .i64 0, .int .i64 0, .int .i64 0, .bool false, .bool false, .bool false] 55)).heap[w.heap.size]? = some (.cells #[.int .i64 p.W, .int .i64 p.window, .int .i64 p.fuel, .int .i64 p.r0, .int .i64 p.r1, .int .i64 p.r2, .int .i64 p.r3, p.mems, p.labels, .slice p.A p.n p.c] 33) := heap_keep (heap_keep (heap_alloc_new w (.cells #[.int .i64 p.W, .int .i64 p.window, .int .i64 p.fuel, .int .i64 p.r0, .int .i64 p.r1, .int .i64 p.r2, .int .i64 p.r3, p.mems, p.labels, .slice p.A p.n p.c] 33)) (below_alloc_self _ (.cells #[.int .i64 e.pc, .int .i64 e.val, .int .i64 e.addr, .int .i64 e.frm, .int .i64 e.next, .bool e.done, .bool e.known, .bool e.fault] 55))) (below_alloc_self _ (.cells #[.int .i64 0, .int .i64 0, .int .i64 0, .int .i64 0, .int .i64 0, .bool false, .bool false, .bool false] 55))
 have X5 : (((w.alloc (.cells #[.int .i64 p.W, .int .i64 p.window, .int .i64 p.fuel, .int .i64 p.r0, .int .i64 p.r1, .int .i64 p.r2, .int .i64 p.r3, p.mems, p.labels, .slice p.A p.n p.c] 33)).alloc (.cells #[.int .i64 e.pc, .int .i64 e.val, .int .i64 e.addr, .int .i64 e.frm, .int .i64 e.next, .bool e.done, .bool e.known, .bool e.fault] 55)).alloc (.cells #[.int .i64 0, .int .i64 0, .int .i64 0, .int .i64 0, .int .i64 0, .bool false, .bool false, .bool false] 55)).heap[w.heap.size + 1]? = some (.cells #[.int .i64 e.pc, .int .i64 e.val, .int .i64 e.addr, .int .i64 e.frm, .int .i64 e.next, .bool e.done, .bool e.known, .bool e.fault] 55) := heap_keep (heap_alloc2_new w (.cells #[.int .i64 p.W, .int .i64 p.window, .int .i64 p.fuel, .int .i64 p.r0, .int .i64 p.r1, .int .i64 p.r2, .int .i64 p.r3, p.mems, p.labels, .slice p.A p.n p.c] 33) (.cells #[.int .i64 e.pc, .int .i64 e.val, .int .i64 e.addr, .int .i64 e.frm, .int .i64 e.next, .bool e.done, .bool e.known, .bool e.fault] 55)) (below_alloc_self _ (.cells #[.int .i64 0, .int .i64 0, .int .i64 0, .int .i64 0, .int .i64 0, .bool false, .bool false, .bool false] 55))
 have X6 : (((w.alloc (.cells #[.int .i64 p.W, .int .i64 p.window, .int .i64 p.fuel, .int .i64 p.r0, .int .i64 p.r1, .int .i64 p.r2, .int .i64 p.r3, p.mems, p.labels, .slice p.A p.n p.c] 33)).alloc (.cells #[.int .i64 e.pc, .int .i64 e.val, .int .i64 e.addr, .int .i64 e.frm, .int .i64 e.next, .bool e.done, .bool e.known, .bool e.fault] 55)).alloc (.cells #[.int .i64 0, .int .i64 0, .int .i64 0, .int .i64 0, .int .i64 0, .bool false, .bool false, .bool false] 55)).heap[w.heap.size + 2]? = some (.cells #[.int .i64 0, .int .i64 0, .int .i64 0, .int .i64 0, .int .i64 0, .bool false, .bool false, .bool false] 55) := heap_at_new (W := (w.alloc (.cells #[.int .i64 p.W, .int .i64 p.window, .int .i64 p.fuel, .int .i64 p.r0, .int .i64 p.r1, .int .i64 p.r2, .int .i64 p.r3, p.mems, p.labels, .slice p.A p.n p.c] 33)).alloc (.cells #[.int .i64 e.pc, .int .i64 e.val, .int .i64 e.addr, .int .i64 e.frm, .int .i64 e.next, .bool e.done, .bool e.known, .bool e.fault] 55)) (o := (.cells #[.int .i64 0, .int .i64 0, .int .i64 0, .int .i64 0, .int .i64 0, .bool false, .bool false, .bool false] 55)) (g := w.heap.size + 2) (by simp)
 have SZ : (((w.alloc (.cells #[.int .i64 p.W, .int .i64 p.window, .int .i64 p.fuel, .int .i64 p.r0, .int .i64 p.r1, .int .i64 p.r2, .int .i64 p.r3, p.mems, p.labels, .slice p.A p.n p.c] 33)).alloc (.cells #[.int .i64 e.pc, .int .i64 e.val, .int .i64 e.addr, .int .i64 e.frm, .int .i64 e.next, .bool e.done, .bool e.known, .bool e.fault] 55)).alloc (.cells #[.int .i64 0, .int .i64 0, .int .i64 0, .int .i64 0, .int .i64 0, .bool false, .bool false, .bool false] 55)).heap.size = w.heap.size + 3 := by simp
 have W2 := Kept.mk bb
 clear bb
 generalize ((w.alloc (.cells #[.int .i64 p.W, .int .i64 p.window, .int .i64 p.fuel, .int .i64 p.r0, .int .i64 p.r1, .int .i64 p.r2, .int .i64 p.r3, p.mems, p.labels, .slice p.A p.n p.c] 33)).alloc (.cells #[.int .i64 e.pc, .int .i64 e.val, .int .i64 e.addr, .int .i64 e.frm, .int .i64 e.next, .bool e.done, .bool e.known, .bool e.fault] 55)).alloc (.cells #[.int .i64 0, .int .i64 0, .int .i64 0, .int .i64 0, .int .i64 0, .bool false, .bool false, .bool false] 55) = w2 at *
 have XB := (W2.out.block b hs).trans HB.out
 have HPX := box_kept (cs := p.cs) X3
 have HCX := box_kept XB
 have K3 := Kept.mk X3
 have K5 := Kept.mk X5
 have K6 := Kept.mk X6
 have KB := Kept.mk XB
 clear X3 X5 X6 XB
 refine region_tell (w2.heap.size) (G := fun _ => True) (ts := [
   .is (p.v),
   .is (Value.pointer (some ⟨b, 0, none⟩)),
   .is (Value.pointer (some ⟨b, 0, none⟩)),
   .is (Value.pointer (some ⟨b, 0, none⟩)),
   .is (Value.pointer (some ⟨b, 5, none⟩)),
   .is (Value.slice sA stack.length sC),
   .is (Value.pointer (some ⟨b, 0, none⟩)),
   .is (Value.pointer (some ⟨b, 0, none⟩)),
   .is (Value.pointer (some ⟨b, 7, none⟩)),
   .is (Value.slice bA buf.length bC),
   .is (Value.pointer (some ⟨b, 0, none⟩)),
   .is (Value.pointer (some ⟨b, 0, none⟩)),
   .is (Value.pointer (some ⟨b, 7, none⟩)),
   .is (Value.slice bA buf.length bC),
   .is (Value.int .i64 ((buf.length : Int))),
   .makes (fun v _ => ∃ s : Sl, v = .tuple #[.slice s.A s.n s.c, .bool ok] ∧ s.n = n),
   .gets (fun v _ => ∃ s : Sl, v = .tuple #[.slice s.A s.n s.c, .bool ok] ∧ s.n = n),
   .gets (fun v _ => ∃ s : Sl, v = .slice s.A s.n s.c ∧ s.n = n),
   .is (.bool ok),
   .gets (fun v _ => ∃ s : Sl, v = .slice s.A s.n s.c ∧ s.n = n),
   .is (Value.bool ok)])
  (fin := [19]) (cs := []) (by kernel_rfl) rfl (by kernel_rfl) (by kernel_rfl)
  ⟨trivial, trivial, trivial, trivial, trivial, trivial, trivial, trivial, trivial, trivial, trivial, trivial, trivial, trivial, trivial, grows_pure _, grows_pure _, grows_pure _, trivial, grows_pure _, trivial, trivial⟩ (fun _ _ _ _ => trivial) (by simp) (by simp) trivial
  ⟨?_, ?_, ?_, ?_, ?_, ?_, ?_, ?_, ?_, ?_, ?_, ?_, ?_, ?_, ?_, ?_, ?_, ?_, ?_, ?_, ?_, trivial⟩ ?_
 ·intro vals w1 hB _ hd
  clear hd
  refine one_value (v := p.v) rfl ?_ (post_is rfl)
  exact exec_load_row rfl (b := w.heap.size) (off := 0) (by kernel_rfl) p.cs (HPX.out w1 hB) Try.underlying33 rfl (by kernel_rfl)
 ·intro vals w1 hB _ hd
  clear hd
  refine one_value (v := Value.pointer (some ⟨b, 0, none⟩)) rfl ?_ (post_is rfl)
  kernel_rfl
 ·intro vals w1 hB _ hd
  clear hd
  refine one_value (v := Value.pointer (some ⟨b, 0, none⟩)) rfl ?_ (post_is rfl)
  kernel_rfl
 ·intro vals w1 hB _ hd
  clear hd
  refine one_value (v := Value.pointer (some ⟨b, 0, none⟩)) rfl ?_ (post_is rfl)
  kernel_rfl
 ·intro vals w1 hB _ hd
  clear hd
  refine one_value (v := Value.pointer (some ⟨b, 5, none⟩)) rfl ?_ (post_is rfl)
  kernel_rfl
 ·intro vals w1 hB _ hd
  clear hd
  refine one_value (v := Value.slice sA stack.length sC) rfl ?_ (post_is rfl)
  exact exec_cell rfl (by kernel_rfl) ((HCX.out w1 hB) 5 _ rfl) Try.underlying22 rfl
 ·intro vals w1 hB _ hd
  clear hd
  refine one_value (v := Value.pointer (some ⟨b, 0, none⟩)) rfl ?_ (post_is rfl)
  kernel_rfl
 ·intro vals w1 hB _ hd
  clear hd
  refine one_value (v := Value.pointer (some ⟨b, 0, none⟩)) rfl ?_ (post_is rfl)
  kernel_rfl
 ·intro vals w1 hB _ hd
  clear hd
  refine one_value (v := Value.pointer (some ⟨b, 7, none⟩)) rfl ?_ (post_is rfl)
  kernel_rfl
 ·intro vals w1 hB _ hd
  clear hd
  refine one_value (v := Value.slice bA buf.length bC) rfl ?_ (post_is rfl)
  exact exec_cell rfl (by kernel_rfl) ((HCX.out w1 hB) 7 _ rfl) Try.underlying39 rfl
 ·intro vals w1 hB _ hd
  clear hd
  refine one_value (v := Value.pointer (some ⟨b, 0, none⟩)) rfl ?_ (post_is rfl)
  kernel_rfl
 ·intro vals w1 hB _ hd
  clear hd
  refine one_value (v := Value.pointer (some ⟨b, 0, none⟩)) rfl ?_ (post_is rfl)
  kernel_rfl
 ·intro vals w1 hB _ hd
  clear hd
  refine one_value (v := Value.pointer (some ⟨b, 7, none⟩)) rfl ?_ (post_is rfl)
  kernel_rfl
 ·intro vals w1 hB _ hd
  clear hd
  refine one_value (v := Value.slice bA buf.length bC) rfl ?_ (post_is rfl)
  exact exec_cell rfl (by kernel_rfl) ((HCX.out w1 hB) 7 _ rfl) Try.underlying39 rfl
 ·intro vals w1 hB _ hd
  clear hd
  refine one_value (v := Value.int .i64 ((buf.length : Int))) rfl ?_ (post_is rfl)
  kernel_rfl
 ·intro vals w1 hB _ hd
  clear hd
  refine one_calls (f := 26) (args := #[p.v, .slice sA stack.length sC, .slice bA buf.length bC, .int .i64 (buf.length : Int)]) (w1 := w1) rfl (by kernel_rfl) ?_
  refine (HRL.out w1 ((HP.out.past W2.out).past hB) (HS.out.past (W2.out.trans (hB.mono W2.out.size))) (HE.out.past (W2.out.trans (hB.mono W2.out.size)))).mono ?_
  rintro e1 w3 ⟨s, rfl, hn, h2⟩
  exact ⟨_, rfl, post_makes rfl ⟨s, rfl, hn⟩ h2⟩
 ·intro vals w1 hB _ hd
  have d0 : ∃ s : Sl, vals 15 = .tuple #[.slice s.A s.n s.c, .bool ok] ∧ s.n = n := hd 15 (by kernel_rfl)
  clear hd
  exact one_value (v := vals 15) rfl (by kernel_rfl) (post_gets rfl d0)
 ·intro vals w1 hB _ hd
  obtain ⟨s, e0, hn⟩ : ∃ s : Sl, vals 16 = .tuple #[.slice s.A s.n s.c, .bool ok] ∧ s.n = n := hd 16 (by kernel_rfl)
  clear hd
  refine one_value (v := .slice s.A s.n s.c) rfl ?_ (post_gets rfl ⟨s, rfl, hn⟩)
  rw [vals_at e0]
  kernel_rfl
 ·intro vals w1 hB _ hd
  obtain ⟨s, e0, hn⟩ : ∃ s : Sl, vals 16 = .tuple #[.slice s.A s.n s.c, .bool ok] ∧ s.n = n := hd 16 (by kernel_rfl)
  clear hd
  refine one_value (v := .bool ok) rfl ?_ (post_is rfl)
  rw [vals_at e0]
  kernel_rfl
 ·intro vals w1 hB _ hd
  have d0 : ∃ s : Sl, vals 17 = .slice s.A s.n s.c ∧ s.n = n := hd 17 (by kernel_rfl)
  clear hd
  exact one_value (v := vals 17) rfl (by kernel_rfl) (post_gets rfl d0)
 ·intro vals w1 hB _ hd
  clear hd
  refine one_value (v := Value.bool ok) rfl ?_ (post_is rfl)
  kernel_rfl
 intro vals w3 b3 _ hr
 simp only [fillT, Tell.is, Tell.makes, Tell.gets, Act.put, List.setIfInBounds_toArray, List.set_cons_zero, List.set_cons_succ]
 obtain ⟨s7, e7, hn7⟩ : ∃ s : Sl, vals 19 = .slice s.A s.n s.c ∧ s.n = n := hr 19 (by decide) (by simp)
 have e7' : vals (0 + 1 + 1 + 1 + 1 + 1 + 1 + 1 + 1 + 1 + 1 + 1 + 1 + 1 + 1 + 1 + 1 + 1 + 1 + 1) = .slice s7.A s7.n s7.c := e7
 rw [e7']
 generalize vals (0 + 1 + 1 + 1 + 1 + 1 + 1 + 1 + 1 + 1 + 1 + 1 + 1 + 1 + 1 + 1 + 1) = u9
 generalize vals (0 + 1 + 1 + 1 + 1 + 1 + 1 + 1 + 1 + 1 + 1 + 1 + 1 + 1 + 1 + 1) = u25
 generalize vals (0 + 1 + 1 + 1 + 1 + 1 + 1 + 1 + 1 + 1 + 1 + 1 + 1 + 1 + 1 + 1 + 1 + 1) = u26
 clear hr e7 e7'
 obtain ⟨A7, N7, C7⟩ := s7
 simp only at hn7
 subst hn7
 have X5 := (b3.block (w.heap.size + 1) (by omega)).trans K5.out
 have X6 := (b3.block (w.heap.size + 2) (by omega)).trans K6.out
 have XB := (b3.block b (by omega)).trans KB.out
 have WB3 := Kept.mk (W2.out.trans (b3.mono W2.out.size))
 have Y5 := fun j => cell_of_row w3 (w.heap.size + 1) j _ _ _ X5
 have F5 := fun j => frozen_of_row w3 (w.heap.size + 1) j _ _ X5
 have hs3 : w.heap.size + 3 ≤ w3.heap.size := by have := b3.size; omega
 have L5 := Kept.mk X5
 have L6 := Kept.mk X6
 have LB := Kept.mk XB
 clear X5 X6 XB b3 K3 K5 K6 KB HPX HCX
 cases ok with
 | false =>
  have hf : flt = true := HFL.out.symm
  subst hf
  go_upto_region 3 with (fail)
  have XE : ((w3.setCell ⟨w.heap.size + 1, 5, none⟩ (.bool true)).setCell ⟨w.heap.size + 1, 7, none⟩ (.bool true)).heap[w.heap.size + 1]? = some (.cells (Ent.cs { e with done := true, fault := true }).toArray 55 (0, 0)) :=
   heap_setCell_same _ (w.heap.size + 1) 7 _ _ (.bool true) (heap_setCell_same _ (w.heap.size + 1) 5 _ _ (.bool true) L5.out)
  have XZ := heap_set_far (p := ⟨w.heap.size + 1, 7, none⟩) (u := .bool true) (heap_set_far (p := ⟨w.heap.size + 1, 5, none⟩) (u := .bool true) L6.out (by show w.heap.size + 1 ≠ w.heap.size + 2; omega)) (by show w.heap.size + 1 ≠ w.heap.size + 2; omega)
  have XB := heap_set_far (p := ⟨w.heap.size + 1, 7, none⟩) (u := .bool true) (heap_set_far (p := ⟨w.heap.size + 1, 5, none⟩) (u := .bool true) LB.out (by show w.heap.size + 1 ≠ b; omega)) (by show w.heap.size + 1 ≠ b; omega)
  have W4 := Kept.mk ((WB3.out.setCell (p := ⟨w.heap.size + 1, 5, none⟩) (show w.heap.size ≤ w.heap.size + 1 by omega) (.bool true)).setCell (p := ⟨w.heap.size + 1, 7, none⟩) (show w.heap.size ≤ w.heap.size + 1 by omega) (.bool true))
  have hsE : w.heap.size + 1 < ((w3.setCell ⟨w.heap.size + 1, 5, none⟩ (.bool true)).setCell ⟨w.heap.size + 1, 7, none⟩ (.bool true)).heap.size := (Array.getElem?_eq_some_iff.1 XE).1
  have hsZ : w.heap.size + 2 < ((w3.setCell ⟨w.heap.size + 1, 5, none⟩ (.bool true)).setCell ⟨w.heap.size + 1, 7, none⟩ (.bool true)).heap.size := (Array.getElem?_eq_some_iff.1 XZ).1
  clear Y5 F5 L5 L6 LB WB3 hs3
  generalize (w3.setCell ⟨w.heap.size + 1, 5, none⟩ (.bool true)).setCell ⟨w.heap.size + 1, 7, none⟩ (.bool true) = w4 at *
  refine pcall_region w4 b (w.heap.size + 1) ⟨⟨r0, r1, r2, r3, ⟨mA, mN, mC⟩, ⟨sA, stack.length, sC⟩, pc⟩, ⟨bA, buf.length, bC⟩, ⟨qA, rsb.length, qC⟩, fin⟩ { e with done := true, fault := true } rsb _ ⟨XB⟩ ⟨XE⟩ ⟨rfl, hqc, HQ.out.past W4.out⟩ hrl hpc rfl (by omega) (by omega) (by omega) _ ?_
  intro u37 u38 u39 u40 u41 u42 u43 u44 u45 u46 u47 w5 s8 o8 hx hg
  have X5 := (hg.block (w.heap.size + 1) hsE (by intro h; injection h with h; omega)).trans XE
  have X6 := (hg.block (w.heap.size + 2) hsZ (by intro h; injection h with h; omega)).trans XZ
  have Y5 := fun j => cell_of_row w5 (w.heap.size + 1) j _ _ _ X5
  have Y6 := fun j => cell_of_row w5 (w.heap.size + 2) j _ _ _ X6
  have F6 := fun j => frozen_of_row w5 (w.heap.size + 2) j _ _ X6
  have K6 := Kept.mk X6
  have KX := Kept.mk hx
  have G5 := Kept.mk ((grown_below W4.out (some b)).trans hg)
  have O8 := Kept.mk (OwnI.lower (B' := w.heap.size + 3) o8 (by omega))
  have hb5 : b < w5.heap.size := (Array.getElem?_eq_some_iff.1 hx).1
  simp only [Ent.cs] at Y5
  clear X5 X6 XE XZ XB hx hg o8 W4 hsE hsZ
  go_wp2_with fail
  have x4 := ent_set0 (w := w5) (g := w.heap.size + 2) ⟨0, 0, 0, 0, 0, false, false, false⟩ { e with done := true, fault := true } K6.out
  have g8 := grown8 w5 (w.heap.size + 2) { e with done := true, fault := true }
  refine at_ret _ [Ent.v { e with done := true, fault := true }] Try.results100 (.cons (.cell (cs := Ent.cs { e with done := true, fault := true }) (b := w.heap.size + 2) (off := 0) rfl rfl (cells_of_block x4) Try.underlying55 rfl (by kernel_rfl)) .nil) rfl ?_
  refine ⟨s8, rfl, (g8.block b hb5 (by intro h; injection h with h; omega)).trans KX.out, ?_, .inr (OwnI.lower (B := w.heap.size + 3) ?_ (by omega))⟩
  ·iterate 8 refine grownBy_far ?_ (by show w.heap.size ≤ w.heap.size + 2; omega) _
   exact G5.out
  ·iterate 8 refine OwnI.far ?_ (by show w.heap.size + 2 < w.heap.size + 3; omega) _
   exact O8.out
 | true =>
  have hf : decide ((4 : Int) ≤ (N7 : Int)) = flt := by simpa using HFL.out
  go_upto_region 3 with (fail)
  have XE : ((w3.setCell ⟨w.heap.size + 1, 5, none⟩ (.bool true)).setCell ⟨w.heap.size + 1, 7, none⟩ (.bool flt)).heap[w.heap.size + 1]? = some (.cells (Ent.cs { e with done := true, fault := flt }).toArray 55 (0, 0)) :=
   heap_setCell_same _ (w.heap.size + 1) 7 _ _ (.bool flt) (heap_setCell_same _ (w.heap.size + 1) 5 _ _ (.bool true) L5.out)
  have XZ := heap_set_far (p := ⟨w.heap.size + 1, 7, none⟩) (u := .bool flt) (heap_set_far (p := ⟨w.heap.size + 1, 5, none⟩) (u := .bool true) L6.out (by show w.heap.size + 1 ≠ w.heap.size + 2; omega)) (by show w.heap.size + 1 ≠ w.heap.size + 2; omega)
  have XB := heap_set_far (p := ⟨w.heap.size + 1, 7, none⟩) (u := .bool flt) (heap_set_far (p := ⟨w.heap.size + 1, 5, none⟩) (u := .bool true) LB.out (by show w.heap.size + 1 ≠ b; omega)) (by show w.heap.size + 1 ≠ b; omega)
  have W4 := Kept.mk ((WB3.out.setCell (p := ⟨w.heap.size + 1, 5, none⟩) (show w.heap.size ≤ w.heap.size + 1 by omega) (.bool true)).setCell (p := ⟨w.heap.size + 1, 7, none⟩) (show w.heap.size ≤ w.heap.size + 1 by omega) (.bool flt))
  have hsE : w.heap.size + 1 < ((w3.setCell ⟨w.heap.size + 1, 5, none⟩ (.bool true)).setCell ⟨w.heap.size + 1, 7, none⟩ (.bool flt)).heap.size := (Array.getElem?_eq_some_iff.1 XE).1
  have hsZ : w.heap.size + 2 < ((w3.setCell ⟨w.heap.size + 1, 5, none⟩ (.bool true)).setCell ⟨w.heap.size + 1, 7, none⟩ (.bool flt)).heap.size := (Array.getElem?_eq_some_iff.1 XZ).1
  clear Y5 F5 L5 L6 LB WB3 hs3
  generalize (w3.setCell ⟨w.heap.size + 1, 5, none⟩ (.bool true)).setCell ⟨w.heap.size + 1, 7, none⟩ (.bool flt) = w4 at *
  refine pcall_region w4 b (w.heap.size + 1) ⟨⟨r0, r1, r2, r3, ⟨mA, mN, mC⟩, ⟨sA, stack.length, sC⟩, pc⟩, ⟨bA, buf.length, bC⟩, ⟨qA, rsb.length, qC⟩, fin⟩ { e with done := true, fault := flt } rsb _ ⟨XB⟩ ⟨XE⟩ ⟨rfl, hqc, HQ.out.past W4.out⟩ hrl hpc rfl (by omega) (by omega) (by omega) _ ?_
  intro u37 u38 u39 u40 u41 u42 u43 u44 u45 u46 u47 w5 s8 o8 hx hg
  have X5 := (hg.block (w.heap.size + 1) hsE (by intro h; injection h with h; omega)).trans XE
  have X6 := (hg.block (w.heap.size + 2) hsZ (by intro h; injection h with h; omega)).trans XZ
  have Y5 := fun j => cell_of_row w5 (w.heap.size + 1) j _ _ _ X5
  have Y6 := fun j => cell_of_row w5 (w.heap.size + 2) j _ _ _ X6
  have F6 := fun j => frozen_of_row w5 (w.heap.size + 2) j _ _ X6
  have K6 := Kept.mk X6
  have KX := Kept.mk hx
  have G5 := Kept.mk ((grown_below W4.out (some b)).trans hg)
  have O8 := Kept.mk (OwnI.lower (B' := w.heap.size + 3) o8 (by omega))
  have hb5 : b < w5.heap.size := (Array.getElem?_eq_some_iff.1 hx).1
  simp only [Ent.cs] at Y5
  clear X5 X6 XE XZ XB hx hg o8 W4 hsE hsZ
  go_wp2_with fail
  have x4 := ent_set0 (w := w5) (g := w.heap.size + 2) ⟨0, 0, 0, 0, 0, false, false, false⟩ { e with done := true, fault := flt } K6.out
  have g8 := grown8 w5 (w.heap.size + 2) { e with done := true, fault := flt }
  refine at_ret _ [Ent.v { e with done := true, fault := flt }] Try.results100 (.cons (.cell (cs := Ent.cs { e with done := true, fault := flt }) (b := w.heap.size + 2) (off := 0) rfl rfl (cells_of_block x4) Try.underlying55 rfl (by kernel_rfl)) .nil) rfl ?_
  refine ⟨s8, rfl, (g8.block b hb5 (by intro h; injection h with h; omega)).trans KX.out, ?_, .inr (OwnI.lower (B := w.heap.size + 3) ?_ (by omega))⟩
  ·iterate 8 refine grownBy_far ?_ (by show w.heap.size ≤ w.heap.size + 2; omega) _
   exact G5.out
  ·iterate 8 refine OwnI.far ?_ (by show w.heap.size + 2 < w.heap.size + 3; omega) _
   exact O8.out
end Go.Proofs.Ytchldbkjapnlcaa
end
section
namespace Go.Proofs.Ytchldbkjapnlcaa
open Go.RowKit

set_option maxRecDepth 100000 in
set_option maxHeartbeats 4000000 in
theorem pentry_any (p : Prg) (il : List Inst) (b : Nat) (c : Cnf) (m : Conf) (guess : Int) (w : World) (hp : PIs w p il) (hb : w.heap[b]? = some (.cells c.cs.toArray 41 (0, 0))) (hc : CfIs w c m)
  (hsl : m.st.stack.length ≤ 1000) (hbl : m.buf.length ≤ 1000) (hrl : m.rsb.length ≤ 1000) (hpc : -2 ≤ m.st.pc ∧ m.st.pc ≤ 1000000) :
  Calls Try.prog 77 #[p.v, .pointer (some ⟨b, 0, none⟩), .int .i64 guess] w (PEnt b c m.rsb (fetchEnt il m guess).1 (fetchEnt il m guess).2 w) := by
 have hs : b < w.heap.size := (Array.getElem?_eq_some_iff.1 hb).1
 have HB := Kept.mk hb
 have HP := Kept.mk hp
 have HC := Kept.mk hc
 obtain ⟨⟨r0, r1, r2, r3, ⟨mA, mN, mC⟩, ⟨sA, sN, sC⟩, pc⟩, ⟨bA, bN, bC⟩, ⟨qA, qN, qC⟩, fin⟩ := c
 obtain ⟨⟨q0, q1, q2, q3, mem, stack, qc⟩, buf, rsb, qf⟩ := m
 obtain ⟨⟨h0, h1, h2, h3, hmem, hstk, hpce⟩, hbuf, ⟨hqn, hqc, hqr⟩, hf⟩ := hc
 simp only at h0 h1 h2 h3 hpce hpc hf hbl hqn hqc hqr hrl hsl
 subst h0 h1 h2 h3 hpce hf
 have HQ : Kept (RdI w qA rsb) := ⟨hqr⟩
 clear hb hp hmem hstk hbuf hqr
 generalize hFE : fetchEnt il ⟨⟨r0, r1, r2, r3, mem, stack, pc⟩, buf, rsb, fin⟩ guess = FE
 unfold fetchEnt at hFE
 simp only at hFE
 generalize hx : instAt il pc = x at hFE
 have HAT : Kept (∀ w1, PIs w1 p il → Calls Try.prog 61 #[p.v, .int .i64 pc] w1 fun en w' => en = .returned x.v ∧ Below w1.heap.size w1 w') := ⟨fun w1 h => by rw [← hx]; exact at8 p il pc w1 h⟩
 clear hx
 obtain ⟨kind, op, xd, ar, an, br, bn, name, target⟩ := x
 simp only at hFE
 have HFO := Kept.mk hFE
 clear hFE
 go_enter Try.func77, Try.ntmps77
 go_upto_region 1 with (fail)
 have bb := (below_alloc_self w (.cells #[.int .i64 p.W, .int .i64 p.window, .int .i64 p.fuel, .int .i64 p.r0, .int .i64 p.r1, .int .i64 p.r2, .int .i64 p.r3, p.mems, p.labels, .slice p.A p.n p.c] 33)).alloc (by simp) (.cells #[.int .i64 0, .int .i64 0, .int .i64 0, .int .i64 0, .int .i64 0, .bool false, .bool false, .bool false] 55)
 have X3 : ((w.alloc (.cells #[.int .i64 p.W, .int .i64 p.window, .int .i64 p.fuel, .int .i64 p.r0, .int .i64 p.r1, .int .i64 p.r2, .int .i64 p.r3, p.mems, p.labels, .slice p.A p.n p.c] 33)).alloc (.cells #[.int .i64 0, .int .i64 0, .int .i64 0, .int .i64 0, .int .i64 0, .bool false, .bool false, .bool false] 55)).heap[w.heap.size]? = some (.cells #[.int .i64 p.W, .int .i64 p.window, .int .i64 p.fuel, .int .i64 p.r0, .int .i64 p.r1, .int .i64 p.r2, .int .i64 p.r3, p.mems, p.labels, .slice p.A p.n p.c] 33) := heap_keep (heap_alloc_new w (.cells #[.int .i64 p.W, .int .i64 p.window, .int .i64 p.fuel, .int .i64 p.r0, .int .i64 p.r1, .int .i64 p.r2, .int .i64 p.r3, p.mems, p.labels, .slice p.A p.n p.c] 33)) (below_alloc_self _ (.cells #[.int .i64 0, .int .i64 0, .int .i64 0, .int .i64 0, .int .i64 0, .bool false, .bool false, .bool false] 55))
 have X6 : ((w.alloc (.cells #[.int .i64 p.W, .int .i64 p.window, .int .i64 p.fuel, .int .i64 p.r0, .int .i64 p.r1, .int .i64 p.r2, .int .i64 p.r3, p.mems, p.labels, .slice p.A p.n p.c] 33)).alloc (.cells #[.int .i64 0, .int .i64 0, .int .i64 0, .int .i64 0, .int .i64 0, .bool false, .bool false, .bool false] 55)).heap[w.heap.size + 1]? = some (.cells #[.int .i64 0, .int .i64 0, .int .i64 0, .int .i64 0, .int .i64 0, .bool false, .bool false, .bool false] 55) := heap_alloc2_new w (.cells #[.int .i64 p.W, .int .i64 p.window, .int .i64 p.fuel, .int .i64 p.r0, .int .i64 p.r1, .int .i64 p.r2, .int .i64 p.r3, p.mems, p.labels, .slice p.A p.n p.c] 33) (.cells #[.int .i64 0, .int .i64 0, .int .i64 0, .int .i64 0, .int .i64 0, .bool false, .bool false, .bool false] 55)
 have SZ : ((w.alloc (.cells #[.int .i64 p.W, .int .i64 p.window, .int .i64 p.fuel, .int .i64 p.r0, .int .i64 p.r1, .int .i64 p.r2, .int .i64 p.r3, p.mems, p.labels, .slice p.A p.n p.c] 33)).alloc (.cells #[.int .i64 0, .int .i64 0, .int .i64 0, .int .i64 0, .int .i64 0, .bool false, .bool false, .bool false] 55)).heap.size = w.heap.size + 2 := by simp
 have W2 := Kept.mk bb
 clear bb
 generalize (w.alloc (.cells #[.int .i64 p.W, .int .i64 p.window, .int .i64 p.fuel, .int .i64 p.r0, .int .i64 p.r1, .int .i64 p.r2, .int .i64 p.r3, p.mems, p.labels, .slice p.A p.n p.c] 33)).alloc (.cells #[.int .i64 0, .int .i64 0, .int .i64 0, .int .i64 0, .int .i64 0, .bool false, .bool false, .bool false] 55) = w2 at *
 have XB := (W2.out.block b hs).trans HB.out
 have K3 := Kept.mk X3
 have K6 := Kept.mk X6
 have KB := Kept.mk XB
 have hb2 : b < w2.heap.size := by omega
 have YB : w2.cell? ⟨b, 6, none⟩ = some (.int .i64 pc) := cell_of_row w2 b 6 _ _ _ XB
 have YB2 : (w2.alloc (.cells #[.int .i64 0, .int .i64 0, .int .i64 0, .int .i64 0, .int .i64 0, .bool false, .bool false, .bool false] 55)).cell? ⟨b, 6, none⟩ = some (.int .i64 pc) := cell_of_row _ b 6 _ _ _ (heap_keep XB (below_alloc_self _ (.cells #[.int .i64 0, .int .i64 0, .int .i64 0, .int .i64 0, .int .i64 0, .bool false, .bool false, .bool false] 55)))
 clear X3 X6 XB
 go_region
 have bE := (below_alloc_self w2 (.cells #[.int .i64 pc, .int .i64 0, .int .i64 0, .int .i64 (-1), .int .i64 (pc + 1), .bool false, .bool false, .bool false] 55)).drew
 have X7 : (w2.alloc (.cells #[.int .i64 pc, .int .i64 0, .int .i64 0, .int .i64 (-1), .int .i64 (pc + 1), .bool false, .bool false, .bool false] 55)).drew.heap[w.heap.size + 2]? = some (.cells #[.int .i64 pc, .int .i64 0, .int .i64 0, .int .i64 (-1), .int .i64 (pc + 1), .bool false, .bool false, .bool false] 55) := heap_at_new (W := w2) (o := (.cells #[.int .i64 pc, .int .i64 0, .int .i64 0, .int .i64 (-1), .int .i64 (pc + 1), .bool false, .bool false, .bool false] 55)) (g := w.heap.size + 2) SZ.symm
 have SZ4 : (w2.alloc (.cells #[.int .i64 pc, .int .i64 0, .int .i64 0, .int .i64 (-1), .int .i64 (pc + 1), .bool false, .bool false, .bool false] 55)).drew.heap.size = w.heap.size + 3 := by show (w2.alloc (.cells #[.int .i64 pc, .int .i64 0, .int .i64 0, .int .i64 (-1), .int .i64 (pc + 1), .bool false, .bool false, .bool false] 55)).heap.size = _; simp [SZ]
 have W4 := Kept.mk (W2.out.trans (bE.mono W2.out.size))
 have X3 := heap_keep K3.out bE
 have X6 := heap_keep K6.out bE
 have XB := heap_keep KB.out bE
 clear K3 K6 KB YB YB2 bE
 generalize (w2.alloc (.cells #[.int .i64 pc, .int .i64 0, .int .i64 0, .int .i64 (-1), .int .i64 (pc + 1), .bool false, .bool false, .bool false] 55)).drew = w4 at *
 have K3 := Kept.mk X3
 have K6 := Kept.mk X6
 have KB := Kept.mk XB
 have K7 := Kept.mk X7
 have Y3 := fun j => cell_of_row w4 w.heap.size j _ _ _ X3
 have Y7 := fun j => cell_of_row w4 (w.heap.size + 2) j _ _ _ X7
 clear X3 X6 XB X7 W2 SZ hb2
 go_wp2_with fail
 refine (HAT.out _ (HP.out.past W4.out)).mono ?_
 rintro en w5 ⟨rfl, b5⟩
 have X3 := heap_keep K3.out b5
 have X6 := heap_keep K6.out b5
 have XB := heap_keep KB.out b5
 have X7 := heap_keep K7.out b5
 have W5 := Kept.mk (W4.out.trans (b5.mono W4.out.size))
 have hs5 : w.heap.size + 3 ≤ w5.heap.size := by rw [← SZ4]; exact b5.size
 have hb5 : b < w5.heap.size := by omega
 have hs57 : w.heap.size + 2 < w5.heap.size := by omega
 have hs56 : w.heap.size + 1 < w5.heap.size := by omega
 clear K3 K6 KB K7 Y3 Y7 b5 SZ4 W4
 have Y3 := fun j => cell_of_row w5 w.heap.size j _ _ _ X3
 simp only [Inst.v]
 go_upto_region 3 with (fail)
 have bI := below_alloc_self w5 (.cells #[.int .i64 kind, .int .i64 op, .int .i64 xd, .bool ar, .int .i64 an, .bool br, .int .i64 bn, .string name, .int .i64 target] 53)
 have X3 := heap_keep X3 bI
 have X6 := heap_keep X6 bI
 have XB := heap_keep XB bI
 have X7 := heap_keep X7 bI
 have X8 := heap_alloc_new w5 (.cells #[.int .i64 kind, .int .i64 op, .int .i64 xd, .bool ar, .int .i64 an, .bool br, .int .i64 bn, .string name, .int .i64 target] 53)
 have W6 := Kept.mk (W5.out.trans (bI.mono W5.out.size))
 have hs6 : w5.heap.size < (w5.alloc (.cells #[.int .i64 kind, .int .i64 op, .int .i64 xd, .bool ar, .int .i64 an, .bool br, .int .i64 bn, .string name, .int .i64 target] 53)).heap.size := by simp
 clear Y3 bI W5
 generalize w5.alloc (.cells #[.int .i64 kind, .int .i64 op, .int .i64 xd, .bool ar, .int .i64 an, .bool br, .int .i64 bn, .string name, .int .i64 target] 53) = w6 at *
 obtain ⟨S8, hS8⟩ : ∃ S8, w5.heap.size = S8 := ⟨_, rfl⟩
 rw [hS8] at X8 hs5 hb5 hs6 ⊢
 clear hS8
 have hs57 : w.heap.size + 2 < w6.heap.size := by omega
 have hs56 : w.heap.size + 1 < w6.heap.size := by omega
 have hb6 : b < w6.heap.size := by omega
 have Y3 := fun j => cell_of_row w6 w.heap.size j _ _ _ X3
 have Y7 := fun j => cell_of_row w6 (w.heap.size + 2) j _ _ _ X7
 have F7 := fun j => frozen_of_row w6 (w.heap.size + 2) j _ _ X7
 have Y6 := fun j => cell_of_row w6 (w.heap.size + 1) j _ _ _ X6
 have F6 := fun j => frozen_of_row w6 (w.heap.size + 1) j _ _ X6
 have Y8 := fun j => cell_of_row w6 S8 j _ _ _ X8
 have K6 := Kept.mk X6
 have KB := Kept.mk XB
 have K7 := Kept.mk X7
 clear X3 X6 XB X7 X8
 by_cases hk5 : kind = 5
 ·subst hk5
  by_cases hg1 : guess = 1
  ·subst hg1
   have hF := HFO.out
   rw [if_pos rfl, if_pos rfl] at hF
   have HF := Kept.mk hF
   clear hF HFO
   go_wp2_with fail
   have XS6 := K6.out
   have XSB := KB.out
   have XS7 := K7.out
   have GS := W6.out
   have XS6 := heap_set_far (p := ⟨w.heap.size + 2, 4, none⟩) (u := (.int .i64 target)) XS6 (by show w.heap.size + 2 ≠ w.heap.size + 1; omega)
   have XSB := heap_set_far (p := ⟨w.heap.size + 2, 4, none⟩) (u := (.int .i64 target)) XSB (by show w.heap.size + 2 ≠ b; omega)
   have XS7 := heap_setCell_same _ (w.heap.size + 2) 4 _ _ ((.int .i64 target)) XS7
   have GS := GS.setCell (p := ⟨w.heap.size + 2, 4, none⟩) (show w.heap.size ≤ w.heap.size + 2 by omega) ((.int .i64 target))
   have x4 := ent_set0 (g := w.heap.size + 1) ⟨0, 0, 0, 0, 0, false, false, false⟩ ⟨pc, 0, 0, -1, target, false, false, false⟩ XS6
   have g8 := grown8 (w6.setCell ⟨w.heap.size + 2, 4, none⟩ (.int .i64 target)) (w.heap.size + 1) ⟨pc, 0, 0, -1, target, false, false, false⟩
   have hbw : b < (w6.setCell ⟨w.heap.size + 2, 4, none⟩ (.int .i64 target)).heap.size := (Array.getElem?_eq_some_iff.1 XSB).1
   refine at_ret _ [Ent.v ⟨pc, 0, 0, -1, target, false, false, false⟩] Try.results77 (.cons (.cell (cs := Ent.cs ⟨pc, 0, 0, -1, target, false, false, false⟩) (b := w.heap.size + 1) (off := 0) rfl rfl (cells_of_block x4) Try.underlying55 rfl (by kernel_rfl)) .nil) rfl ?_
   rw [← HF.out]
   refine ⟨⟨qA, qN, qC⟩, rfl, (g8.block b hbw (by intro h; injection h with h; omega)).trans XSB, ?_, .inl ⟨rfl, rfl⟩⟩
   iterate 8 refine grownBy_far ?_ (by show w.heap.size ≤ w.heap.size + 1; omega) _
   exact grown_below GS (some b)
  ·skip
   have hF := HFO.out
   rw [if_pos rfl, if_neg hg1] at hF
   have HF := Kept.mk hF
   clear hF HFO
   have hg1' : (guess == 1) = false := by simp [hg1]
   clear hg1
   go_wp2_with fail
   have XS6 := K6.out
   have XSB := KB.out
   have XS7 := K7.out
   have GS := W6.out
   have x4 := ent_set0 (g := w.heap.size + 1) ⟨0, 0, 0, 0, 0, false, false, false⟩ ⟨pc, 0, 0, -1, (pc + 1), false, false, false⟩ XS6
   have g8 := grown8 w6 (w.heap.size + 1) ⟨pc, 0, 0, -1, (pc + 1), false, false, false⟩
   have hbw : b < w6.heap.size := (Array.getElem?_eq_some_iff.1 XSB).1
   refine at_ret _ [Ent.v ⟨pc, 0, 0, -1, (pc + 1), false, false, false⟩] Try.results77 (.cons (.cell (cs := Ent.cs ⟨pc, 0, 0, -1, (pc + 1), false, false, false⟩) (b := w.heap.size + 1) (off := 0) rfl rfl (cells_of_block x4) Try.underlying55 rfl (by kernel_rfl)) .nil) rfl ?_
   rw [← HF.out]
   refine ⟨⟨qA, qN, qC⟩, rfl, (g8.block b hbw (by intro h; injection h with h; omega)).trans XSB, ?_, .inl ⟨rfl, rfl⟩⟩
   iterate 8 refine grownBy_far ?_ (by show w.heap.size ≤ w.heap.size + 1; omega) _
   exact grown_below GS (some b)
 by_cases hk6 : kind = 6
 ·subst hk6
  have hF := HFO.out
  rw [if_neg (show ¬ ((6 : Int) = 5) by decide), if_pos rfl] at hF
  have HF := Kept.mk hF
  clear hF HFO
  go_wp2_with fail
  have XS6 := K6.out
  have XSB := KB.out
  have XS7 := K7.out
  have GS := W6.out
  have XS6 := heap_set_far (p := ⟨w.heap.size + 2, 4, none⟩) (u := (.int .i64 target)) XS6 (by show w.heap.size + 2 ≠ w.heap.size + 1; omega)
  have XSB := heap_set_far (p := ⟨w.heap.size + 2, 4, none⟩) (u := (.int .i64 target)) XSB (by show w.heap.size + 2 ≠ b; omega)
  have XS7 := heap_setCell_same _ (w.heap.size + 2) 4 _ _ ((.int .i64 target)) XS7
  have GS := GS.setCell (p := ⟨w.heap.size + 2, 4, none⟩) (show w.heap.size ≤ w.heap.size + 2 by omega) ((.int .i64 target))
  have XS6 := heap_set_far (p := ⟨w.heap.size + 2, 5, none⟩) (u := (.bool true)) XS6 (by show w.heap.size + 2 ≠ w.heap.size + 1; omega)
  have XSB := heap_set_far (p := ⟨w.heap.size + 2, 5, none⟩) (u := (.bool true)) XSB (by show w.heap.size + 2 ≠ b; omega)
  have XS7 := heap_setCell_same _ (w.heap.size + 2) 5 _ _ ((.bool true)) XS7
  have GS := GS.setCell (p := ⟨w.heap.size + 2, 5, none⟩) (show w.heap.size ≤ w.heap.size + 2 by omega) ((.bool true))
  have x4 := ent_set0 (g := w.heap.size + 1) ⟨0, 0, 0, 0, 0, false, false, false⟩ ⟨pc, 0, 0, -1, target, true, false, false⟩ XS6
  have g8 := grown8 ((w6.setCell ⟨w.heap.size + 2, 4, none⟩ (.int .i64 target)).setCell ⟨w.heap.size + 2, 5, none⟩ (.bool true)) (w.heap.size + 1) ⟨pc, 0, 0, -1, target, true, false, false⟩
  have hbw : b < ((w6.setCell ⟨w.heap.size + 2, 4, none⟩ (.int .i64 target)).setCell ⟨w.heap.size + 2, 5, none⟩ (.bool true)).heap.size := (Array.getElem?_eq_some_iff.1 XSB).1
  refine at_ret _ [Ent.v ⟨pc, 0, 0, -1, target, true, false, false⟩] Try.results77 (.cons (.cell (cs := Ent.cs ⟨pc, 0, 0, -1, target, true, false, false⟩) (b := w.heap.size + 1) (off := 0) rfl rfl (cells_of_block x4) Try.underlying55 rfl (by kernel_rfl)) .nil) rfl ?_
  rw [← HF.out]
  refine ⟨⟨qA, qN, qC⟩, rfl, (g8.block b hbw (by intro h; injection h with h; omega)).trans XSB, ?_, .inl ⟨rfl, rfl⟩⟩
  iterate 8 refine grownBy_far ?_ (by show w.heap.size ≤ w.heap.size + 1; omega) _
  exact grown_below GS (some b)
 by_cases hk7 : kind = 7
 ·subst hk7
  have hF := HFO.out
  rw [if_neg (show ¬ ((7 : Int) = 5) by decide), if_neg (show ¬ ((7 : Int) = 6) by decide), if_pos rfl] at hF
  have HF := Kept.mk hF
  clear hF HFO
  go_wp2_with fail
  have XS6 := K6.out
  have XSB := KB.out
  have XS7 := K7.out
  have GS := W6.out
  have XS6 := heap_set_far (p := ⟨w.heap.size + 2, 4, none⟩) (u := (.int .i64 guess)) XS6 (by show w.heap.size + 2 ≠ w.heap.size + 1; omega)
  have XSB := heap_set_far (p := ⟨w.heap.size + 2, 4, none⟩) (u := (.int .i64 guess)) XSB (by show w.heap.size + 2 ≠ b; omega)
  have XS7 := heap_setCell_same _ (w.heap.size + 2) 4 _ _ ((.int .i64 guess)) XS7
  have GS := GS.setCell (p := ⟨w.heap.size + 2, 4, none⟩) (show w.heap.size ≤ w.heap.size + 2 by omega) ((.int .i64 guess))
  have x4 := ent_set0 (g := w.heap.size + 1) ⟨0, 0, 0, 0, 0, false, false, false⟩ ⟨pc, 0, 0, -1, guess, false, false, false⟩ XS6
  have g8 := grown8 (w6.setCell ⟨w.heap.size + 2, 4, none⟩ (.int .i64 guess)) (w.heap.size + 1) ⟨pc, 0, 0, -1, guess, false, false, false⟩
  have hbw : b < (w6.setCell ⟨w.heap.size + 2, 4, none⟩ (.int .i64 guess)).heap.size := (Array.getElem?_eq_some_iff.1 XSB).1
  refine at_ret _ [Ent.v ⟨pc, 0, 0, -1, guess, false, false, false⟩] Try.results77 (.cons (.cell (cs := Ent.cs ⟨pc, 0, 0, -1, guess, false, false, false⟩) (b := w.heap.size + 1) (off := 0) rfl rfl (cells_of_block x4) Try.underlying55 rfl (by kernel_rfl)) .nil) rfl ?_
  rw [← HF.out]
  refine ⟨⟨qA, qN, qC⟩, rfl, (g8.block b hbw (by intro h; injection h with h; omega)).trans XSB, ?_, .inl ⟨rfl, rfl⟩⟩
  iterate 8 refine grownBy_far ?_ (by show w.heap.size ≤ w.heap.size + 1; omega) _
  exact grown_below GS (some b)
 by_cases hk9 : kind = 9
 ·subst hk9
  rcases list_end rsb with rfl | ⟨r, x, rfl⟩
  ·simp only [List.length_nil] at hqn
   subst hqn
   have hF := HFO.out
   rw [if_neg (show ¬ ((9 : Int) = 5) by decide), if_neg (show ¬ ((9 : Int) = 6) by decide), if_neg (show ¬ ((9 : Int) = 7) by decide), if_pos rfl] at hF
   have HF := Kept.mk hF
   clear hF HFO
   go_wp2_with fail
   have XS6 := K6.out
   have XSB := KB.out
   have XS7 := K7.out
   have GS := W6.out
   have hS6 : w.heap.size + 1 < w6.heap.size := (Array.getElem?_eq_some_iff.1 XS6).1
   have hsw : w.heap.size ≤ w6.heap.size := by omega
   refine (pret_none b ⟨⟨r0, r1, r2, r3, ⟨mA, mN, mC⟩, ⟨sA, sN, sC⟩, pc⟩, ⟨bA, bN, bC⟩, ⟨qA, 0, qC⟩, fin⟩ ⟨pc, 0, 0, -1, (pc + 1), false, false, false⟩ guess _ XSB rfl).mono ?_
   rintro en w7 ⟨s, rfl, hxb, hg, ho⟩
   have X6 := (hg.block (w.heap.size + 1) hS6 (by intro h; injection h with h; omega)).trans XS6
   have F6 := fun j => frozen_of_row w7 (w.heap.size + 1) j _ _ X6
   have Y6 := fun j => cell_of_row w7 (w.heap.size + 1) j _ _ _ X6
   have K6b := Kept.mk X6
   have KXB := Kept.mk hxb
   have G7 := Kept.mk ((grown_below GS (some b)).trans hg)
   have HO := Kept.mk ho
   have hbw : b < w7.heap.size := (Array.getElem?_eq_some_iff.1 hxb).1
   have hszw : w.heap.size + 2 ≤ w6.heap.size := by omega
   clear X6 hxb hg ho XS6 XSB XS7 GS
   go_wp2_with fail
   have x4 := ent_set0 (w := w7) (g := w.heap.size + 1) ⟨0, 0, 0, 0, 0, false, false, false⟩ ⟨pc, 0, 0, -1, guess, false, false, false⟩ K6b.out
   have g8 := grown8 w7 (w.heap.size + 1) ⟨pc, 0, 0, -1, guess, false, false, false⟩
   refine at_ret _ [Ent.v ⟨pc, 0, 0, -1, guess, false, false, false⟩] Try.results77 (.cons (.cell (cs := Ent.cs ⟨pc, 0, 0, -1, guess, false, false, false⟩) (b := w.heap.size + 1) (off := 0) rfl rfl (cells_of_block x4) Try.underlying55 rfl (by kernel_rfl)) .nil) rfl ?_
   rw [← HF.out]
   refine ⟨s, rfl, (g8.block b hbw (by intro h; injection h with h; omega)).trans KXB.out, ?_, ?_⟩
   ·iterate 8 refine grownBy_far ?_ (by show w.heap.size ≤ w.heap.size + 1; omega) _
    exact G7.out
   ·rcases HO.out with h | h
    ·exact .inl ⟨h.1, by first | exact h.2 | rfl⟩
    ·refine .inr (OwnI.lower (B := w.heap.size + 2) ?_ (by omega))
     iterate 8 refine OwnI.far ?_ (by show w.heap.size + 1 < w.heap.size + 2; omega) _
     exact h.lower hszw
  ·skip
   have hF := HFO.out
   rw [if_neg (show ¬ ((9 : Int) = 5) by decide), if_neg (show ¬ ((9 : Int) = 6) by decide), if_neg (show ¬ ((9 : Int) = 7) by decide), if_pos rfl] at hF
   have HF := Kept.mk hF
   clear hF HFO
   simp only [List.getLast?_append, List.getLast?_singleton, Option.some_or, List.dropLast_concat] at HF
   go_wp2_with fail
   have XS6 := K6.out
   have XSB := KB.out
   have XS7 := K7.out
   have GS := W6.out
   have hS6 : w.heap.size + 1 < w6.heap.size := (Array.getElem?_eq_some_iff.1 XS6).1
   have hsw : w.heap.size ≤ w6.heap.size := by omega
   refine (pret_some b ⟨⟨r0, r1, r2, r3, ⟨mA, mN, mC⟩, ⟨sA, sN, sC⟩, pc⟩, ⟨bA, bN, bC⟩, ⟨qA, qN, qC⟩, fin⟩ ⟨pc, 0, 0, -1, (pc + 1), false, false, false⟩ guess r x _ XSB ⟨hqn, hqc, HQ.out.past GS⟩ (by simp at hrl; omega)).mono ?_
   rintro en w7 ⟨s, rfl, hxb, hg, ho⟩
   have X6 := (hg.block (w.heap.size + 1) hS6 (by intro h; injection h with h; omega)).trans XS6
   have F6 := fun j => frozen_of_row w7 (w.heap.size + 1) j _ _ X6
   have Y6 := fun j => cell_of_row w7 (w.heap.size + 1) j _ _ _ X6
   have K6b := Kept.mk X6
   have KXB := Kept.mk hxb
   have G7 := Kept.mk ((grown_below GS (some b)).trans hg)
   have HO := Kept.mk ho
   have hbw : b < w7.heap.size := (Array.getElem?_eq_some_iff.1 hxb).1
   have hszw : w.heap.size + 2 ≤ w6.heap.size := by omega
   clear X6 hxb hg ho XS6 XSB XS7 GS
   go_wp2_with fail
   have x4 := ent_set0 (w := w7) (g := w.heap.size + 1) ⟨0, 0, 0, 0, 0, false, false, false⟩ ⟨pc, 0, 0, -1, x, false, false, false⟩ K6b.out
   have g8 := grown8 w7 (w.heap.size + 1) ⟨pc, 0, 0, -1, x, false, false, false⟩
   refine at_ret _ [Ent.v ⟨pc, 0, 0, -1, x, false, false, false⟩] Try.results77 (.cons (.cell (cs := Ent.cs ⟨pc, 0, 0, -1, x, false, false, false⟩) (b := w.heap.size + 1) (off := 0) rfl rfl (cells_of_block x4) Try.underlying55 rfl (by kernel_rfl)) .nil) rfl ?_
   rw [← HF.out]
   refine ⟨s, rfl, (g8.block b hbw (by intro h; injection h with h; omega)).trans KXB.out, ?_, ?_⟩
   ·iterate 8 refine grownBy_far ?_ (by show w.heap.size ≤ w.heap.size + 1; omega) _
    exact G7.out
   ·rcases HO.out with h | h
    ·exact .inl ⟨h.1, by first | exact h.2 | rfl⟩
    ·refine .inr (OwnI.lower (B := w.heap.size + 2) ?_ (by omega))
     iterate 8 refine OwnI.far ?_ (by show w.heap.size + 1 < w.heap.size + 2; omega) _
     exact h.lower hszw
 by_cases hk8 : kind = 8
 ·subst hk8
  have hF := HFO.out
  rw [if_neg (show ¬ ((8 : Int) = 5) by decide), if_neg (show ¬ ((8 : Int) = 6) by decide), if_neg (show ¬ ((8 : Int) = 7) by decide), if_neg (show ¬ ((8 : Int) = 9) by decide), if_pos rfl] at hF
  have HF := Kept.mk hF
  clear hF HFO
  go_wp2_with fail
  have XS6 := K6.out
  have XSB := KB.out
  have XS7 := K7.out
  have GS := W6.out
  have XS6 := heap_set_far (p := ⟨w.heap.size + 2, 4, none⟩) (u := (.int .i64 target)) XS6 (by show w.heap.size + 2 ≠ w.heap.size + 1; omega)
  have XSB := heap_set_far (p := ⟨w.heap.size + 2, 4, none⟩) (u := (.int .i64 target)) XSB (by show w.heap.size + 2 ≠ b; omega)
  have XS7 := heap_setCell_same _ (w.heap.size + 2) 4 _ _ ((.int .i64 target)) XS7
  have GS := GS.setCell (p := ⟨w.heap.size + 2, 4, none⟩) (show w.heap.size ≤ w.heap.size + 2 by omega) ((.int .i64 target))
  have hS6 : w.heap.size + 1 < (w6.setCell ⟨w.heap.size + 2, 4, none⟩ (.int .i64 target)).heap.size := (Array.getElem?_eq_some_iff.1 XS6).1
  have hsw : w.heap.size ≤ (w6.setCell ⟨w.heap.size + 2, 4, none⟩ (.int .i64 target)).heap.size := by omega
  refine (pcall_any p il b ⟨⟨r0, r1, r2, r3, ⟨mA, mN, mC⟩, ⟨sA, sN, sC⟩, pc⟩, ⟨bA, bN, bC⟩, ⟨qA, qN, qC⟩, fin⟩ ⟨⟨r0, r1, r2, r3, mem, stack, pc⟩, buf, rsb, fin⟩ ⟨pc, 0, 0, -1, target, false, false, false⟩ _ (HP.out.past GS) XSB (HC.out.past GS) hsl hbl hrl hpc).mono ?_
  rintro en w7 ⟨s, rfl, hxb, hg, ho⟩
  have X6 := (hg.block (w.heap.size + 1) hS6 (by intro h; injection h with h; omega)).trans XS6
  have F6 := fun j => frozen_of_row w7 (w.heap.size + 1) j _ _ X6
  have Y6 := fun j => cell_of_row w7 (w.heap.size + 1) j _ _ _ X6
  have K6b := Kept.mk X6
  have KXB := Kept.mk hxb
  have G7 := Kept.mk ((grown_below GS (some b)).trans hg)
  have HO := Kept.mk ho
  have hbw : b < w7.heap.size := (Array.getElem?_eq_some_iff.1 hxb).1
  have hszw : w.heap.size + 2 ≤ (w6.setCell ⟨w.heap.size + 2, 4, none⟩ (.int .i64 target)).heap.size := by omega
  clear X6 hxb hg ho XS6 XSB XS7 GS
  go_wp2_with fail
  have x4 := ent_set0 (w := w7) (g := w.heap.size + 1) ⟨0, 0, 0, 0, 0, false, false, false⟩ ⟨pc, 0, 0, -1, target, true, false, (callFault il ⟨⟨r0, r1, r2, r3, mem, stack, pc⟩, buf, rsb, fin⟩)⟩ K6b.out
  have g8 := grown8 w7 (w.heap.size + 1) ⟨pc, 0, 0, -1, target, true, false, (callFault il ⟨⟨r0, r1, r2, r3, mem, stack, pc⟩, buf, rsb, fin⟩)⟩
  refine at_ret _ [Ent.v ⟨pc, 0, 0, -1, target, true, false, (callFault il ⟨⟨r0, r1, r2, r3, mem, stack, pc⟩, buf, rsb, fin⟩)⟩] Try.results77 (.cons (.cell (cs := Ent.cs ⟨pc, 0, 0, -1, target, true, false, (callFault il ⟨⟨r0, r1, r2, r3, mem, stack, pc⟩, buf, rsb, fin⟩)⟩) (b := w.heap.size + 1) (off := 0) rfl rfl (cells_of_block x4) Try.underlying55 rfl (by kernel_rfl)) .nil) rfl ?_
  rw [← HF.out]
  refine ⟨s, rfl, (g8.block b hbw (by intro h; injection h with h; omega)).trans KXB.out, ?_, ?_⟩
  ·iterate 8 refine grownBy_far ?_ (by show w.heap.size ≤ w.heap.size + 1; omega) _
   exact G7.out
  ·rcases HO.out with h | h
   ·exact .inl ⟨h.1, by first | exact h.2 | rfl⟩
   ·refine .inr (OwnI.lower (B := w.heap.size + 2) ?_ (by omega))
    iterate 8 refine OwnI.far ?_ (by show w.heap.size + 1 < w.heap.size + 2; omega) _
    exact h.lower hszw
 by_cases hk11 : kind = 11
 ·subst hk11
  have hF := HFO.out
  rw [if_neg (show ¬ ((11 : Int) = 5) by decide), if_neg (show ¬ ((11 : Int) = 6) by decide), if_neg (show ¬ ((11 : Int) = 7) by decide), if_neg (show ¬ ((11 : Int) = 9) by decide), if_neg (show ¬ ((11 : Int) = 8) by decide), if_pos (.inl rfl)] at hF
  have HF := Kept.mk hF
  clear hF HFO
  go_wp2_with fail
  have XS6 := K6.out
  have XSB := KB.out
  have XS7 := K7.out
  have GS := W6.out
  have XS6 := heap_set_far (p := ⟨w.heap.size + 2, 4, none⟩) (u := (.int .i64 (-1))) XS6 (by show w.heap.size + 2 ≠ w.heap.size + 1; omega)
  have XSB := heap_set_far (p := ⟨w.heap.size + 2, 4, none⟩) (u := (.int .i64 (-1))) XSB (by show w.heap.size + 2 ≠ b; omega)
  have XS7 := heap_setCell_same _ (w.heap.size + 2) 4 _ _ ((.int .i64 (-1))) XS7
  have GS := GS.setCell (p := ⟨w.heap.size + 2, 4, none⟩) (show w.heap.size ≤ w.heap.size + 2 by omega) ((.int .i64 (-1)))
  have XS6 := heap_set_far (p := ⟨w.heap.size + 2, 5, none⟩) (u := (.bool true)) XS6 (by show w.heap.size + 2 ≠ w.heap.size + 1; omega)
  have XSB := heap_set_far (p := ⟨w.heap.size + 2, 5, none⟩) (u := (.bool true)) XSB (by show w.heap.size + 2 ≠ b; omega)
  have XS7 := heap_setCell_same _ (w.heap.size + 2) 5 _ _ ((.bool true)) XS7
  have GS := GS.setCell (p := ⟨w.heap.size + 2, 5, none⟩) (show w.heap.size ≤ w.heap.size + 2 by omega) ((.bool true))
  have x4 := ent_set0 (g := w.heap.size + 1) ⟨0, 0, 0, 0, 0, false, false, false⟩ ⟨pc, 0, 0, -1, (-1), true, false, false⟩ XS6
  have g8 := grown8 ((w6.setCell ⟨w.heap.size + 2, 4, none⟩ (.int .i64 (-1))).setCell ⟨w.heap.size + 2, 5, none⟩ (.bool true)) (w.heap.size + 1) ⟨pc, 0, 0, -1, (-1), true, false, false⟩
  have hbw : b < ((w6.setCell ⟨w.heap.size + 2, 4, none⟩ (.int .i64 (-1))).setCell ⟨w.heap.size + 2, 5, none⟩ (.bool true)).heap.size := (Array.getElem?_eq_some_iff.1 XSB).1
  refine at_ret _ [Ent.v ⟨pc, 0, 0, -1, (-1), true, false, false⟩] Try.results77 (.cons (.cell (cs := Ent.cs ⟨pc, 0, 0, -1, (-1), true, false, false⟩) (b := w.heap.size + 1) (off := 0) rfl rfl (cells_of_block x4) Try.underlying55 rfl (by kernel_rfl)) .nil) rfl ?_
  rw [← HF.out]
  refine ⟨⟨qA, qN, qC⟩, rfl, (g8.block b hbw (by intro h; injection h with h; omega)).trans XSB, ?_, .inl ⟨rfl, rfl⟩⟩
  iterate 8 refine grownBy_far ?_ (by show w.heap.size ≤ w.heap.size + 1; omega) _
  exact grown_below GS (some b)
 by_cases hk12 : kind = 12
 ·subst hk12
  have hF := HFO.out
  rw [if_neg (show ¬ ((12 : Int) = 5) by decide), if_neg (show ¬ ((12 : Int) = 6) by decide), if_neg (show ¬ ((12 : Int) = 7) by decide), if_neg (show ¬ ((12 : Int) = 9) by decide), if_neg (show ¬ ((12 : Int) = 8) by decide), if_pos (.inr rfl)] at hF
  have HF := Kept.mk hF
  clear hF HFO
  go_wp2_with fail
  have XS6 := K6.out
  have XSB := KB.out
  have XS7 := K7.out
  have GS := W6.out
  have XS6 := heap_set_far (p := ⟨w.heap.size + 2, 4, none⟩) (u := (.int .i64 (-1))) XS6 (by show w.heap.size + 2 ≠ w.heap.size + 1; omega)
  have XSB := heap_set_far (p := ⟨w.heap.size + 2, 4, none⟩) (u := (.int .i64 (-1))) XSB (by show w.heap.size + 2 ≠ b; omega)
  have XS7 := heap_setCell_same _ (w.heap.size + 2) 4 _ _ ((.int .i64 (-1))) XS7
  have GS := GS.setCell (p := ⟨w.heap.size + 2, 4, none⟩) (show w.heap.size ≤ w.heap.size + 2 by omega) ((.int .i64 (-1)))
  have XS6 := heap_set_far (p := ⟨w.heap.size + 2, 5, none⟩) (u := (.bool true)) XS6 (by show w.heap.size + 2 ≠ w.heap.size + 1; omega)
  have XSB := heap_set_far (p := ⟨w.heap.size + 2, 5, none⟩) (u := (.bool true)) XSB (by show w.heap.size + 2 ≠ b; omega)
  have XS7 := heap_setCell_same _ (w.heap.size + 2) 5 _ _ ((.bool true)) XS7
  have GS := GS.setCell (p := ⟨w.heap.size + 2, 5, none⟩) (show w.heap.size ≤ w.heap.size + 2 by omega) ((.bool true))
  have x4 := ent_set0 (g := w.heap.size + 1) ⟨0, 0, 0, 0, 0, false, false, false⟩ ⟨pc, 0, 0, -1, (-1), true, false, false⟩ XS6
  have g8 := grown8 ((w6.setCell ⟨w.heap.size + 2, 4, none⟩ (.int .i64 (-1))).setCell ⟨w.heap.size + 2, 5, none⟩ (.bool true)) (w.heap.size + 1) ⟨pc, 0, 0, -1, (-1), true, false, false⟩
  have hbw : b < ((w6.setCell ⟨w.heap.size + 2, 4, none⟩ (.int .i64 (-1))).setCell ⟨w.heap.size + 2, 5, none⟩ (.bool true)).heap.size := (Array.getElem?_eq_some_iff.1 XSB).1
  refine at_ret _ [Ent.v ⟨pc, 0, 0, -1, (-1), true, false, false⟩] Try.results77 (.cons (.cell (cs := Ent.cs ⟨pc, 0, 0, -1, (-1), true, false, false⟩) (b := w.heap.size + 1) (off := 0) rfl rfl (cells_of_block x4) Try.underlying55 rfl (by kernel_rfl)) .nil) rfl ?_
  rw [← HF.out]
  refine ⟨⟨qA, qN, qC⟩, rfl, (g8.block b hbw (by intro h; injection h with h; omega)).trans XSB, ?_, .inl ⟨rfl, rfl⟩⟩
  iterate 8 refine grownBy_far ?_ (by show w.heap.size ≤ w.heap.size + 1; omega) _
  exact grown_below GS (some b)
 have hF := HFO.out
 rw [if_neg hk5, if_neg hk6, if_neg hk7, if_neg hk9, if_neg hk8, if_neg (show ¬ (kind = 11 ∨ kind = 12) by omega)] at hF
 have HF := Kept.mk hF
 clear hF HFO
 have k5 : (kind == 5) = false := by simp [hk5]
 have k6 : (kind == 6) = false := by simp [hk6]
 have k7 : (kind == 7) = false := by simp [hk7]
 have k9 : (kind == 9) = false := by simp [hk9]
 have k8 : (kind == 8) = false := by simp [hk8]
 have k11 : (kind == 11) = false := by simp [hk11]
 have k12 : (kind == 12) = false := by simp [hk12]
 clear hk5 hk6 hk7 hk9 hk8 hk11 hk12
 go_wp2_with fail
 have XS6 := K6.out
 have XSB := KB.out
 have XS7 := K7.out
 have GS := W6.out
 have x4 := ent_set0 (g := w.heap.size + 1) ⟨0, 0, 0, 0, 0, false, false, false⟩ ⟨pc, 0, 0, -1, (pc + 1), false, false, false⟩ XS6
 have g8 := grown8 w6 (w.heap.size + 1) ⟨pc, 0, 0, -1, (pc + 1), false, false, false⟩
 have hbw : b < w6.heap.size := (Array.getElem?_eq_some_iff.1 XSB).1
 refine at_ret _ [Ent.v ⟨pc, 0, 0, -1, (pc + 1), false, false, false⟩] Try.results77 (.cons (.cell (cs := Ent.cs ⟨pc, 0, 0, -1, (pc + 1), false, false, false⟩) (b := w.heap.size + 1) (off := 0) rfl rfl (cells_of_block x4) Try.underlying55 rfl (by kernel_rfl)) .nil) rfl ?_
 rw [← HF.out]
 refine ⟨⟨qA, qN, qC⟩, rfl, (g8.block b hbw (by intro h; injection h with h; omega)).trans XSB, ?_, .inl ⟨rfl, rfl⟩⟩
 iterate 8 refine grownBy_far ?_ (by show w.heap.size ≤ w.heap.size + 1; omega) _
 exact grown_below GS (some b)
end Go.Proofs.Ytchldbkjapnlcaa
end
section
namespace Go.Proofs.Ytchldbkjapnlcaa
open Go.RowKit

set_option maxRecDepth 100000 in
set_option maxHeartbeats 2000000 in
theorem pfetch_no (p : Prg) (il : List Inst) (c : Cnf) (m : Conf) (guess : Int) (w : World) (hp : PIs w p il) (hc : CfIs w c m)
  (hbl : m.buf.length ≤ 1000) (hrl : m.rsb.length ≤ 1000) (hg : guess < 0 ∨ guessesOf p.window il m ≤ guess) :
  Calls Try.prog 41 #[p.v, c.v, .int .i64 guess] w (fun en w' => en = .returned (.tuple #[Cnf.zero.v, .bool false]) ∧ Below w.heap.size w w') := by
 have HP := Kept.mk hp
 have HC := Kept.mk hc
 have HG := Kept.mk (fun w1 h1 h2 => pguesses_any p il c m w1 h1 h2 (by omega) (by omega))
 obtain ⟨⟨r0, r1, r2, r3, ⟨mA, mN, mC⟩, ⟨sA, sN, sC⟩, pc⟩, ⟨bA, bN, bC⟩, ⟨qA, qN, qC⟩, fin⟩ := c
 clear hp hc
 generalize guessesOf p.window il m = gs at hg HG
 have bb := ((below_alloc_self w (.cells #[.int .i64 p.W, .int .i64 p.window, .int .i64 p.fuel, .int .i64 p.r0, .int .i64 p.r1, .int .i64 p.r2, .int .i64 p.r3, p.mems, p.labels, .slice p.A p.n p.c] 33)).alloc (by simp) (.cells #[.int .i64 r0, .int .i64 r1, .int .i64 r2, .int .i64 r3, .slice mA mN mC, .slice sA sN sC, .int .i64 pc, .slice bA bN bC, .slice qA qN qC, .int .i64 fin] 41)).alloc (by simp; omega) (.cells #[.int .i64 0, .int .i64 0, .int .i64 0, .int .i64 0, .slice none 0 0, .slice none 0 0, .int .i64 0, .slice none 0 0, .slice none 0 0, .int .i64 0] 41)
 have X6 : (((w.alloc (.cells #[.int .i64 p.W, .int .i64 p.window, .int .i64 p.fuel, .int .i64 p.r0, .int .i64 p.r1, .int .i64 p.r2, .int .i64 p.r3, p.mems, p.labels, .slice p.A p.n p.c] 33)).alloc (.cells #[.int .i64 r0, .int .i64 r1, .int .i64 r2, .int .i64 r3, .slice mA mN mC, .slice sA sN sC, .int .i64 pc, .slice bA bN bC, .slice qA qN qC, .int .i64 fin] 41)).alloc (.cells #[.int .i64 0, .int .i64 0, .int .i64 0, .int .i64 0, .slice none 0 0, .slice none 0 0, .int .i64 0, .slice none 0 0, .slice none 0 0, .int .i64 0] 41)).heap[w.heap.size + 2]? = some (.cells #[.int .i64 0, .int .i64 0, .int .i64 0, .int .i64 0, .slice none 0 0, .slice none 0 0, .int .i64 0, .slice none 0 0, .slice none 0 0, .int .i64 0] 41) := heap_at_new (W := (w.alloc (.cells #[.int .i64 p.W, .int .i64 p.window, .int .i64 p.fuel, .int .i64 p.r0, .int .i64 p.r1, .int .i64 p.r2, .int .i64 p.r3, p.mems, p.labels, .slice p.A p.n p.c] 33)).alloc (.cells #[.int .i64 r0, .int .i64 r1, .int .i64 r2, .int .i64 r3, .slice mA mN mC, .slice sA sN sC, .int .i64 pc, .slice bA bN bC, .slice qA qN qC, .int .i64 fin] 41)) (o := (.cells #[.int .i64 0, .int .i64 0, .int .i64 0, .int .i64 0, .slice none 0 0, .slice none 0 0, .int .i64 0, .slice none 0 0, .slice none 0 0, .int .i64 0] 41)) (g := w.heap.size + 2) (by simp)
 have X3 : (((w.alloc (.cells #[.int .i64 p.W, .int .i64 p.window, .int .i64 p.fuel, .int .i64 p.r0, .int .i64 p.r1, .int .i64 p.r2, .int .i64 p.r3, p.mems, p.labels, .slice p.A p.n p.c] 33)).alloc (.cells #[.int .i64 r0, .int .i64 r1, .int .i64 r2, .int .i64 r3, .slice mA mN mC, .slice sA sN sC, .int .i64 pc, .slice bA bN bC, .slice qA qN qC, .int .i64 fin] 41)).alloc (.cells #[.int .i64 0, .int .i64 0, .int .i64 0, .int .i64 0, .slice none 0 0, .slice none 0 0, .int .i64 0, .slice none 0 0, .slice none 0 0, .int .i64 0] 41)).heap[w.heap.size]? = some (.cells #[.int .i64 p.W, .int .i64 p.window, .int .i64 p.fuel, .int .i64 p.r0, .int .i64 p.r1, .int .i64 p.r2, .int .i64 p.r3, p.mems, p.labels, .slice p.A p.n p.c] 33) := heap_keep (heap_keep (heap_alloc_new w (.cells #[.int .i64 p.W, .int .i64 p.window, .int .i64 p.fuel, .int .i64 p.r0, .int .i64 p.r1, .int .i64 p.r2, .int .i64 p.r3, p.mems, p.labels, .slice p.A p.n p.c] 33)) (below_alloc_self _ (.cells #[.int .i64 r0, .int .i64 r1, .int .i64 r2, .int .i64 r3, .slice mA mN mC, .slice sA sN sC, .int .i64 pc, .slice bA bN bC, .slice qA qN qC, .int .i64 fin] 41))) (below_alloc_self _ (.cells #[.int .i64 0, .int .i64 0, .int .i64 0, .int .i64 0, .slice none 0 0, .slice none 0 0, .int .i64 0, .slice none 0 0, .slice none 0 0, .int .i64 0] 41))
 have X4 : (((w.alloc (.cells #[.int .i64 p.W, .int .i64 p.window, .int .i64 p.fuel, .int .i64 p.r0, .int .i64 p.r1, .int .i64 p.r2, .int .i64 p.r3, p.mems, p.labels, .slice p.A p.n p.c] 33)).alloc (.cells #[.int .i64 r0, .int .i64 r1, .int .i64 r2, .int .i64 r3, .slice mA mN mC, .slice sA sN sC, .int .i64 pc, .slice bA bN bC, .slice qA qN qC, .int .i64 fin] 41)).alloc (.cells #[.int .i64 0, .int .i64 0, .int .i64 0, .int .i64 0, .slice none 0 0, .slice none 0 0, .int .i64 0, .slice none 0 0, .slice none 0 0, .int .i64 0] 41)).heap[w.heap.size + 1]? = some (.cells #[.int .i64 r0, .int .i64 r1, .int .i64 r2, .int .i64 r3, .slice mA mN mC, .slice sA sN sC, .int .i64 pc, .slice bA bN bC, .slice qA qN qC, .int .i64 fin] 41) := heap_keep (heap_alloc2_new w (.cells #[.int .i64 p.W, .int .i64 p.window, .int .i64 p.fuel, .int .i64 p.r0, .int .i64 p.r1, .int .i64 p.r2, .int .i64 p.r3, p.mems, p.labels, .slice p.A p.n p.c] 33) (.cells #[.int .i64 r0, .int .i64 r1, .int .i64 r2, .int .i64 r3, .slice mA mN mC, .slice sA sN sC, .int .i64 pc, .slice bA bN bC, .slice qA qN qC, .int .i64 fin] 41)) (below_alloc_self _ (.cells #[.int .i64 0, .int .i64 0, .int .i64 0, .int .i64 0, .slice none 0 0, .slice none 0 0, .int .i64 0, .slice none 0 0, .slice none 0 0, .int .i64 0] 41))
 go_enter Try.func41, Try.ntmps41
 go_upto_region 1 with (fail)
 have W2 := Kept.mk bb
 clear bb
 generalize ((w.alloc (.cells #[.int .i64 p.W, .int .i64 p.window, .int .i64 p.fuel, .int .i64 p.r0, .int .i64 p.r1, .int .i64 p.r2, .int .i64 p.r3, p.mems, p.labels, .slice p.A p.n p.c] 33)).alloc (.cells #[.int .i64 r0, .int .i64 r1, .int .i64 r2, .int .i64 r3, .slice mA mN mC, .slice sA sN sC, .int .i64 pc, .slice bA bN bC, .slice qA qN qC, .int .i64 fin] 41)).alloc (.cells #[.int .i64 0, .int .i64 0, .int .i64 0, .int .i64 0, .slice none 0 0, .slice none 0 0, .int .i64 0, .slice none 0 0, .slice none 0 0, .int .i64 0] 41) = w2 at *
 have K6 := Kept.mk X6
 have Y3 := fun j => cell_of_row w2 w.heap.size j _ _ _ X3
 have Y4 := fun j => cell_of_row w2 (w.heap.size + 1) j _ _ _ X4
 have Y6 := fun j => cell_of_row w2 (w.heap.size + 2) j _ _ _ X6
 have F6 := fun j => frozen_of_row w2 (w.heap.size + 2) j _ _ X6
 clear X3 X4 X6
 by_cases h0 : guess < 0
 ·have hb0 : decide (guess < 0) = true := by simpa using h0
  clear hg
  go_wp2_with fail
  have x4 := cnf_set2 (w := w2) (g := w.heap.size + 2) Cnf.zero Cnf.zero K6.out
  have wb := below10 (g := w.heap.size + 2) Cnf.zero W2.out (by omega)
  refine at_ret _ [Cnf.v Cnf.zero, .bool false] Try.results41 (.cons (.cell (cs := Cnf.cs Cnf.zero) (b := w.heap.size + 2) (off := 0) rfl rfl (cells_of_block x4) Try.underlying41 rfl (by kernel_rfl)) (.cons (.tmp rfl) .nil)) rfl ?_
  exact ⟨rfl, wb⟩
 ·have h1 : gs ≤ guess := by omega
  have hb0 : decide (guess < 0) = false := by simpa using h0
  clear hg h0
  go_wp2_with fail
  refine (HG.out _ (HP.out.past W2.out) (HC.out.past W2.out)).mono ?_
  rintro en w3 ⟨rfl, b3⟩
  have X6 := heap_keep K6.out b3
  have K6 := Kept.mk X6
  have Y6 := fun j => cell_of_row w3 (w.heap.size + 2) j _ _ _ X6
  have F6 := fun j => frozen_of_row w3 (w.heap.size + 2) j _ _ X6
  have W3 := Kept.mk (W2.out.trans (b3.mono W2.out.size))
  clear X6 b3
  go_wp2_with fail
  have x4 := cnf_set2 (w := w3) (g := w.heap.size + 2) Cnf.zero Cnf.zero K6.out
  have wb := below10 (g := w.heap.size + 2) Cnf.zero W3.out (by omega)
  refine at_ret _ [Cnf.v Cnf.zero, .bool false] Try.results41 (.cons (.cell (cs := Cnf.cs Cnf.zero) (b := w.heap.size + 2) (off := 0) rfl rfl (cells_of_block x4) Try.underlying41 rfl (by kernel_rfl)) (.cons (.tmp rfl) .nil)) rfl ?_
  exact ⟨rfl, wb⟩
set_option maxRecDepth 100000 in
set_option maxHeartbeats 1200000 in
theorem pfetch_yes (p : Prg) (il : List Inst) (c : Cnf) (m : Conf) (guess : Int) (w : World) (hp : PIs w p il) (hc : CfIs w c m)
  (hml : m.st.mem.length ≤ 1000) (hsl : m.st.stack.length ≤ 1000) (hbl : m.buf.length ≤ 1000) (hrl : m.rsb.length ≤ 1000) (hpc : -2 ≤ m.st.pc ∧ m.st.pc ≤ 1000000) (hg0 : 0 ≤ guess) (hg1 : guess < guessesOf p.window il m) :
  Calls Try.prog 41 #[p.v, c.v, .int .i64 guess] w (fun en w' => ∃ c' : Cnf, en = .returned (.tuple #[c'.v, .bool true]) ∧ Cf4 w' w.heap.size c' (fetchOf il m guess) ∧ Below w.heap.size w w') := by
 have HP := Kept.mk hp
 have HC := Kept.mk hc
 have hwin : (m.buf.length : Int) < p.window := by
  unfold guessesOf at hg1
  split at hg1
  ·omega
  ·rename_i h
   simp only [not_or] at h
   omega
 have HG := Kept.mk (fun w1 h1 h2 => pguesses_any p il c m w1 h1 h2 (by omega) (by omega))
 have HS := Kept.mk (fun w1 h1 => cstill_any c m w1 h1 hml hsl hbl hrl)
 obtain ⟨⟨r0, r1, r2, r3, ⟨mA, mN, mC⟩, ⟨sA, sN, sC⟩, pc⟩, ⟨bA, bN, bC⟩, ⟨qA, qN, qC⟩, fin⟩ := c
 clear hp hc
 generalize guessesOf p.window il m = gs at hg1 HG
 have bb := ((below_alloc_self w (.cells #[.int .i64 p.W, .int .i64 p.window, .int .i64 p.fuel, .int .i64 p.r0, .int .i64 p.r1, .int .i64 p.r2, .int .i64 p.r3, p.mems, p.labels, .slice p.A p.n p.c] 33)).alloc (by simp) (.cells #[.int .i64 r0, .int .i64 r1, .int .i64 r2, .int .i64 r3, .slice mA mN mC, .slice sA sN sC, .int .i64 pc, .slice bA bN bC, .slice qA qN qC, .int .i64 fin] 41)).alloc (by simp; omega) (.cells #[.int .i64 0, .int .i64 0, .int .i64 0, .int .i64 0, .slice none 0 0, .slice none 0 0, .int .i64 0, .slice none 0 0, .slice none 0 0, .int .i64 0] 41)
 have X6 : (((w.alloc (.cells #[.int .i64 p.W, .int .i64 p.window, .int .i64 p.fuel, .int .i64 p.r0, .int .i64 p.r1, .int .i64 p.r2, .int .i64 p.r3, p.mems, p.labels, .slice p.A p.n p.c] 33)).alloc (.cells #[.int .i64 r0, .int .i64 r1, .int .i64 r2, .int .i64 r3, .slice mA mN mC, .slice sA sN sC, .int .i64 pc, .slice bA bN bC, .slice qA qN qC, .int .i64 fin] 41)).alloc (.cells #[.int .i64 0, .int .i64 0, .int .i64 0, .int .i64 0, .slice none 0 0, .slice none 0 0, .int .i64 0, .slice none 0 0, .slice none 0 0, .int .i64 0] 41)).heap[w.heap.size + 2]? = some (.cells #[.int .i64 0, .int .i64 0, .int .i64 0, .int .i64 0, .slice none 0 0, .slice none 0 0, .int .i64 0, .slice none 0 0, .slice none 0 0, .int .i64 0] 41) := heap_at_new (W := (w.alloc (.cells #[.int .i64 p.W, .int .i64 p.window, .int .i64 p.fuel, .int .i64 p.r0, .int .i64 p.r1, .int .i64 p.r2, .int .i64 p.r3, p.mems, p.labels, .slice p.A p.n p.c] 33)).alloc (.cells #[.int .i64 r0, .int .i64 r1, .int .i64 r2, .int .i64 r3, .slice mA mN mC, .slice sA sN sC, .int .i64 pc, .slice bA bN bC, .slice qA qN qC, .int .i64 fin] 41)) (o := (.cells #[.int .i64 0, .int .i64 0, .int .i64 0, .int .i64 0, .slice none 0 0, .slice none 0 0, .int .i64 0, .slice none 0 0, .slice none 0 0, .int .i64 0] 41)) (g := w.heap.size + 2) (by simp)
 have X3 : (((w.alloc (.cells #[.int .i64 p.W, .int .i64 p.window, .int .i64 p.fuel, .int .i64 p.r0, .int .i64 p.r1, .int .i64 p.r2, .int .i64 p.r3, p.mems, p.labels, .slice p.A p.n p.c] 33)).alloc (.cells #[.int .i64 r0, .int .i64 r1, .int .i64 r2, .int .i64 r3, .slice mA mN mC, .slice sA sN sC, .int .i64 pc, .slice bA bN bC, .slice qA qN qC, .int .i64 fin] 41)).alloc (.cells #[.int .i64 0, .int .i64 0, .int .i64 0, .int .i64 0, .slice none 0 0, .slice none 0 0, .int .i64 0, .slice none 0 0, .slice none 0 0, .int .i64 0] 41)).heap[w.heap.size]? = some (.cells #[.int .i64 p.W, .int .i64 p.window, .int .i64 p.fuel, .int .i64 p.r0, .int .i64 p.r1, .int .i64 p.r2, .int .i64 p.r3, p.mems, p.labels, .slice p.A p.n p.c] 33) := heap_keep (heap_keep (heap_alloc_new w (.cells #[.int .i64 p.W, .int .i64 p.window, .int .i64 p.fuel, .int .i64 p.r0, .int .i64 p.r1, .int .i64 p.r2, .int .i64 p.r3, p.mems, p.labels, .slice p.A p.n p.c] 33)) (below_alloc_self _ (.cells #[.int .i64 r0, .int .i64 r1, .int .i64 r2, .int .i64 r3, .slice mA mN mC, .slice sA sN sC, .int .i64 pc, .slice bA bN bC, .slice qA qN qC, .int .i64 fin] 41))) (below_alloc_self _ (.cells #[.int .i64 0, .int .i64 0, .int .i64 0, .int .i64 0, .slice none 0 0, .slice none 0 0, .int .i64 0, .slice none 0 0, .slice none 0 0, .int .i64 0] 41))
 have X4 : (((w.alloc (.cells #[.int .i64 p.W, .int .i64 p.window, .int .i64 p.fuel, .int .i64 p.r0, .int .i64 p.r1, .int .i64 p.r2, .int .i64 p.r3, p.mems, p.labels, .slice p.A p.n p.c] 33)).alloc (.cells #[.int .i64 r0, .int .i64 r1, .int .i64 r2, .int .i64 r3, .slice mA mN mC, .slice sA sN sC, .int .i64 pc, .slice bA bN bC, .slice qA qN qC, .int .i64 fin] 41)).alloc (.cells #[.int .i64 0, .int .i64 0, .int .i64 0, .int .i64 0, .slice none 0 0, .slice none 0 0, .int .i64 0, .slice none 0 0, .slice none 0 0, .int .i64 0] 41)).heap[w.heap.size + 1]? = some (.cells #[.int .i64 r0, .int .i64 r1, .int .i64 r2, .int .i64 r3, .slice mA mN mC, .slice sA sN sC, .int .i64 pc, .slice bA bN bC, .slice qA qN qC, .int .i64 fin] 41) := heap_keep (heap_alloc2_new w (.cells #[.int .i64 p.W, .int .i64 p.window, .int .i64 p.fuel, .int .i64 p.r0, .int .i64 p.r1, .int .i64 p.r2, .int .i64 p.r3, p.mems, p.labels, .slice p.A p.n p.c] 33) (.cells #[.int .i64 r0, .int .i64 r1, .int .i64 r2, .int .i64 r3, .slice mA mN mC, .slice sA sN sC, .int .i64 pc, .slice bA bN bC, .slice qA qN qC, .int .i64 fin] 41)) (below_alloc_self _ (.cells #[.int .i64 0, .int .i64 0, .int .i64 0, .int .i64 0, .slice none 0 0, .slice none 0 0, .int .i64 0, .slice none 0 0, .slice none 0 0, .int .i64 0] 41))
 go_enter Try.func41, Try.ntmps41
 go_upto_region 1 with (fail)
 have W2 := Kept.mk bb
 clear bb
 generalize ((w.alloc (.cells #[.int .i64 p.W, .int .i64 p.window, .int .i64 p.fuel, .int .i64 p.r0, .int .i64 p.r1, .int .i64 p.r2, .int .i64 p.r3, p.mems, p.labels, .slice p.A p.n p.c] 33)).alloc (.cells #[.int .i64 r0, .int .i64 r1, .int .i64 r2, .int .i64 r3, .slice mA mN mC, .slice sA sN sC, .int .i64 pc, .slice bA bN bC, .slice qA qN qC, .int .i64 fin] 41)).alloc (.cells #[.int .i64 0, .int .i64 0, .int .i64 0, .int .i64 0, .slice none 0 0, .slice none 0 0, .int .i64 0, .slice none 0 0, .slice none 0 0, .int .i64 0] 41) = w2 at *
 have Y3 := fun j => cell_of_row w2 w.heap.size j _ _ _ X3
 have Y4 := fun j => cell_of_row w2 (w.heap.size + 1) j _ _ _ X4
 have hb0 : decide (guess < 0) = false := by simpa using hg0
 go_wp2_with fail
 refine (HG.out _ (HP.out.past W2.out) (HC.out.past W2.out)).mono ?_
 rintro en w3 ⟨rfl, b3⟩
 have X3 := heap_keep X3 b3
 have X4 := heap_keep X4 b3
 have X6 := heap_keep X6 b3
 have W3 := Kept.mk (W2.out.trans (b3.mono W2.out.size))
 clear Y3 Y4 W2 b3
 have Y3 := fun j => cell_of_row w3 w.heap.size j _ _ _ X3
 have Y4 := fun j => cell_of_row w3 (w.heap.size + 1) j _ _ _ X4
 go_wp2_with fail
 refine (HS.out _ (HC.out.past W3.out)).mono ?_
 rintro en w4 ⟨c1, rfl, ho, b4⟩
 have X3 := heap_keep X3 b4
 have X4 := heap_keep X4 b4
 have X6 := heap_keep X6 b4
 have W4 := Kept.mk (W3.out.trans (b4.mono W3.out.size))
 have hs3 : w.heap.size + 2 < w3.heap.size := (Array.getElem?_eq_some_iff.1 (show w3.heap[w.heap.size + 2]? = _ from by assumption)).1
 obtain ⟨⟨t0, t1, t2, t3, ⟨eA, eN, eC⟩, ⟨fA, fN, fC⟩, tpc⟩, ⟨gA, gN, gC⟩, ⟨hA, hN, hC⟩, tf⟩ := c1
 have Y4 := fun j => cell_of_row w4 (w.heap.size + 1) j _ _ _ X4
 have F4 := fun j => frozen_of_row w4 (w.heap.size + 1) j _ _ X4
 clear Y3 b4 W3
 go_upto_region 4 with (fail)
 have x4 := cnf_set2 (w := w4) (g := w.heap.size + 1) ⟨⟨r0, r1, r2, r3, ⟨mA, mN, mC⟩, ⟨sA, sN, sC⟩, pc⟩, ⟨bA, bN, bC⟩, ⟨qA, qN, qC⟩, fin⟩ ⟨⟨t0, t1, t2, t3, ⟨eA, eN, eC⟩, ⟨fA, fN, fC⟩, tpc⟩, ⟨gA, gN, gC⟩, ⟨hA, hN, hC⟩, tf⟩ X4
 have wb := below10 (g := w.heap.size + 1) ⟨⟨t0, t1, t2, t3, ⟨eA, eN, eC⟩, ⟨fA, fN, fC⟩, tpc⟩, ⟨gA, gN, gC⟩, ⟨hA, hN, hC⟩, tf⟩ W4.out (by omega)
 have x3 : ((((((((((w4.setCell ⟨w.heap.size + 1, 0, none⟩ (.int .i64 t0)).setCell ⟨w.heap.size + 1, 1, none⟩ (.int .i64 t1)).setCell ⟨w.heap.size + 1, 2, none⟩ (.int .i64 t2)).setCell ⟨w.heap.size + 1, 3, none⟩ (.int .i64 t3)).setCell ⟨w.heap.size + 1, 4, none⟩ (.slice eA eN eC)).setCell ⟨w.heap.size + 1, 5, none⟩ (.slice fA fN fC)).setCell ⟨w.heap.size + 1, 6, none⟩ (.int .i64 tpc)).setCell ⟨w.heap.size + 1, 7, none⟩ (.slice gA gN gC)).setCell ⟨w.heap.size + 1, 8, none⟩ (.slice hA hN hC)).setCell ⟨w.heap.size + 1, 9, none⟩ (.int .i64 tf)).heap[w.heap.size]? = some (.cells #[.int .i64 p.W, .int .i64 p.window, .int .i64 p.fuel, .int .i64 p.r0, .int .i64 p.r1, .int .i64 p.r2, .int .i64 p.r3, p.mems, p.labels, .slice p.A p.n p.c] 33) := by
  iterate 10 refine heap_set_far ?_ (by show w.heap.size + 1 ≠ w.heap.size; omega)
  exact X3
 have x6 : ((((((((((w4.setCell ⟨w.heap.size + 1, 0, none⟩ (.int .i64 t0)).setCell ⟨w.heap.size + 1, 1, none⟩ (.int .i64 t1)).setCell ⟨w.heap.size + 1, 2, none⟩ (.int .i64 t2)).setCell ⟨w.heap.size + 1, 3, none⟩ (.int .i64 t3)).setCell ⟨w.heap.size + 1, 4, none⟩ (.slice eA eN eC)).setCell ⟨w.heap.size + 1, 5, none⟩ (.slice fA fN fC)).setCell ⟨w.heap.size + 1, 6, none⟩ (.int .i64 tpc)).setCell ⟨w.heap.size + 1, 7, none⟩ (.slice gA gN gC)).setCell ⟨w.heap.size + 1, 8, none⟩ (.slice hA hN hC)).setCell ⟨w.heap.size + 1, 9, none⟩ (.int .i64 tf)).heap[w.heap.size + 2]? = some (.cells #[.int .i64 0, .int .i64 0, .int .i64 0, .int .i64 0, .slice none 0 0, .slice none 0 0, .int .i64 0, .slice none 0 0, .slice none 0 0, .int .i64 0] 41) := by
  iterate 10 refine heap_set_far ?_ (by show w.heap.size + 1 ≠ w.heap.size + 2; omega)
  exact X6
 have CF : CfOwn ((((((((((w4.setCell ⟨w.heap.size + 1, 0, none⟩ (.int .i64 t0)).setCell ⟨w.heap.size + 1, 1, none⟩ (.int .i64 t1)).setCell ⟨w.heap.size + 1, 2, none⟩ (.int .i64 t2)).setCell ⟨w.heap.size + 1, 3, none⟩ (.int .i64 t3)).setCell ⟨w.heap.size + 1, 4, none⟩ (.slice eA eN eC)).setCell ⟨w.heap.size + 1, 5, none⟩ (.slice fA fN fC)).setCell ⟨w.heap.size + 1, 6, none⟩ (.int .i64 tpc)).setCell ⟨w.heap.size + 1, 7, none⟩ (.slice gA gN gC)).setCell ⟨w.heap.size + 1, 8, none⟩ (.slice hA hN hC)).setCell ⟨w.heap.size + 1, 9, none⟩ (.int .i64 tf)) (w.heap.size + 3) ⟨⟨t0, t1, t2, t3, ⟨eA, eN, eC⟩, ⟨fA, fN, fC⟩, tpc⟩, ⟨gA, gN, gC⟩, ⟨hA, hN, hC⟩, tf⟩ m := by
  iterate 10 refine CfOwn.far ?_ (by show w.heap.size + 1 < w.heap.size + 3; omega) _
  exact ho.lower (by omega)
 clear Y4 F4 X3 X4 X6 W4 ho
 generalize ((((((((((w4.setCell ⟨w.heap.size + 1, 0, none⟩ (.int .i64 t0)).setCell ⟨w.heap.size + 1, 1, none⟩ (.int .i64 t1)).setCell ⟨w.heap.size + 1, 2, none⟩ (.int .i64 t2)).setCell ⟨w.heap.size + 1, 3, none⟩ (.int .i64 t3)).setCell ⟨w.heap.size + 1, 4, none⟩ (.slice eA eN eC)).setCell ⟨w.heap.size + 1, 5, none⟩ (.slice fA fN fC)).setCell ⟨w.heap.size + 1, 6, none⟩ (.int .i64 tpc)).setCell ⟨w.heap.size + 1, 7, none⟩ (.slice gA gN gC)).setCell ⟨w.heap.size + 1, 8, none⟩ (.slice hA hN hC)).setCell ⟨w.heap.size + 1, 9, none⟩ (.int .i64 tf)) = w5 at *
 have hgn : gN = m.buf.length := CF.is.buf.n
 subst hgn
 have W5 := Kept.mk wb
 have K6 := Kept.mk x6
 have Y3 := fun j => cell_of_row w5 w.heap.size j _ _ _ x3
 have Y4 := fun j => cell_of_row w5 (w.heap.size + 1) j _ _ _ x4
 have hs6 : w.heap.size + 2 < w5.heap.size := (Array.getElem?_eq_some_iff.1 x6).1
 go_wp2_with fail
 refine (pentry_any p il (w.heap.size + 1) ⟨⟨t0, t1, t2, t3, ⟨eA, eN, eC⟩, ⟨fA, fN, fC⟩, tpc⟩, ⟨gA, m.buf.length, gC⟩, ⟨hA, hN, hC⟩, tf⟩ m guess w5 (HP.out.past W5.out) x4 CF.is hsl hbl hrl hpc).mono ?_
 rintro en w6 ⟨⟨kA, kN, kC⟩, rfl, hxb, hg, hor⟩
 have OM := World.ownsRow.kept CF.st.mem hg (own_ne CF.st.mem (show w.heap.size + 1 < w.heap.size + 3 by omega))
 have OS := World.ownsRow.kept CF.st.stack hg (own_ne CF.st.stack (show w.heap.size + 1 < w.heap.size + 3 by omega))
 have OB := World.ownsRow.kept CF.buf hg (own_ne CF.buf (show w.heap.size + 1 < w.heap.size + 3 by omega))
 have RQ : OwnI w6 (w.heap.size + 3) (.slice kA kN kC) (fetchEnt il m guess).2 := by
  rcases hor with ⟨h1, h2⟩ | h
  ·rw [h2]
   have h3 : OwnI w6 (w.heap.size + 3) (.slice hA hN hC) m.rsb := World.ownsRow.kept CF.rsb hg (own_ne CF.rsb (show w.heap.size + 1 < w.heap.size + 3 by omega))
   injection h1 with e1 e2 e3
   rw [e1, e2, e3]
   exact h3
  ·exact OwnI.lower h (by omega)
 have FM := Kept.mk (show fetchOf il m guess = { m with st := { m.st with pc := (fetchEnt il m guess).1.next }, buf := m.buf ++ [(fetchEnt il m guess).1], rsb := (fetchEnt il m guess).2 } from rfl)
 generalize fetchEnt il m guess = FE at *
 obtain ⟨⟨n0, n1, n2, n3, n4, n5, n6, n7⟩, rsb'⟩ := FE
 simp only [Ent.v] at *
 have CE := Kept.mk CF
 have x3 := (hg.block w.heap.size (by omega) (by intro h; injection h with h; omega)).trans x3
 have x6 := (hg.block (w.heap.size + 2) hs6 (by intro h; injection h with h; omega)).trans K6.out
 have W6 := Kept.mk (W5.out.trans (below_of_grown hg (by omega) |>.mono (by omega)))
 clear Y3 Y4 hs6 hor CF x4 W5 K6
 have Y3 := fun j => cell_of_row w6 w.heap.size j _ _ _ x3
 have Y4 := fun j => cell_of_row w6 (w.heap.size + 1) j _ _ _ hxb
 have hs6 : w.heap.size + 2 < w6.heap.size := (Array.getElem?_eq_some_iff.1 x6).1
 go_upto_region 5 with (fail)
 have bE := below_alloc_self w6 (.cells #[.int .i64 n0, .int .i64 n1, .int .i64 n2, .int .i64 n3, .int .i64 n4, .bool n5, .bool n6, .bool n7] 55)
 have X3 := heap_keep x3 bE
 have X4 := heap_keep hxb bE
 have X6 := heap_keep x6 bE
 have X8 := heap_alloc_new w6 (.cells #[.int .i64 n0, .int .i64 n1, .int .i64 n2, .int .i64 n3, .int .i64 n4, .bool n5, .bool n6, .bool n7] 55)
 have W7 := Kept.mk (W6.out.trans (bE.mono W6.out.size))
 have OM := Kept.mk (OwnI.past OM bE)
 have OS := Kept.mk (OwnI.past OS bE)
 have OB := Kept.mk (OwnE.past OB bE)
 have RQ := Kept.mk (OwnI.past RQ bE)
 clear Y3 Y4 x3 hxb x6 bE W6
 generalize w6.alloc (.cells #[.int .i64 n0, .int .i64 n1, .int .i64 n2, .int .i64 n3, .int .i64 n4, .bool n5, .bool n6, .bool n7] 55) = w7 at *
 obtain ⟨S8, hS8⟩ : ∃ S8, w6.heap.size = S8 := ⟨_, rfl⟩
 rw [hS8] at X8 hs6 ⊢
 clear hS8 hg
 have hs8 : S8 < w7.heap.size := (Array.getElem?_eq_some_iff.1 X8).1
 have Y3 := fun j => cell_of_row w7 w.heap.size j _ _ _ X3
 have Y4 := fun j => cell_of_row w7 (w.heap.size + 1) j _ _ _ X4
 have Y8 := fun j => cell_of_row w7 S8 j _ _ _ X8
 simp only [Cnf.cs] at Y4
 go_wp2_with fail
 refine (push_yes gA gC m.buf ⟨n0, n1, n2, n3, n4, n5, n6, n7⟩ p.window w7 hwin (OwnE.is (s := ⟨gA, m.buf.length, gC⟩) OB.out).r (by omega)).mono ?_
 rintro en w8 ⟨v, rfl, hv, b8⟩
 obtain ⟨⟨vA, vN, vC⟩, rfl, hv⟩ := hv.sl
 have X4 := heap_keep X4 b8
 have X6 := heap_keep X6 b8
 have X8 := heap_keep X8 b8
 have hs7 : w.heap.size + 2 < w7.heap.size := by omega
 have OV := Kept.mk (hv.lower (show w.heap.size + 3 ≤ w7.heap.size by omega))
 have OM := Kept.mk (OwnI.past OM.out b8)
 have OS := Kept.mk (OwnI.past OS.out b8)
 have RQ := Kept.mk (OwnI.past RQ.out b8)
 have W8 := Kept.mk (W7.out.trans (b8.mono W7.out.size))
 clear Y3 Y4 Y8 X3 OB hv b8 W7
 have Y4 := fun j => cell_of_row w8 (w.heap.size + 1) j _ _ _ X4
 have F4 := fun j => frozen_of_row w8 (w.heap.size + 1) j _ _ X4
 have Y6 := fun j => cell_of_row w8 (w.heap.size + 2) j _ _ _ X6
 have F6 := fun j => frozen_of_row w8 (w.heap.size + 2) j _ _ X6
 have Y8 := fun j => cell_of_row w8 S8 j _ _ _ X8
 have K6 := Kept.mk X6
 simp only [Cnf.cs] at Y4
 clear X4 X6 X8
 go_wp2_with fail
 have K6b := heap_set_far (p := ⟨w.heap.size + 1, 6, none⟩) (u := .int .i64 n4) (heap_set_far (p := ⟨w.heap.size + 1, 7, none⟩) (u := .slice vA vN vC) K6.out (by show w.heap.size + 1 ≠ w.heap.size + 2; omega)) (by show w.heap.size + 1 ≠ w.heap.size + 2; omega)
 have W9 := (W8.out.setCell (p := ⟨w.heap.size + 1, 7, none⟩) (show w.heap.size ≤ w.heap.size + 1 by omega) (.slice vA vN vC)).setCell (p := ⟨w.heap.size + 1, 6, none⟩) (show w.heap.size ≤ w.heap.size + 1 by omega) (.int .i64 n4)
 have x4 := cnf_set2 (g := w.heap.size + 2) Cnf.zero ⟨⟨t0, t1, t2, t3, ⟨eA, eN, eC⟩, ⟨fA, fN, fC⟩, n4⟩, ⟨vA, vN, vC⟩, ⟨kA, kN, kC⟩, tf⟩ K6b
 have wb := below10 (g := w.heap.size + 2) ⟨⟨t0, t1, t2, t3, ⟨eA, eN, eC⟩, ⟨fA, fN, fC⟩, n4⟩, ⟨vA, vN, vC⟩, ⟨kA, kN, kC⟩, tf⟩ W9 (by omega)
 refine at_ret _ [Cnf.v ⟨⟨t0, t1, t2, t3, ⟨eA, eN, eC⟩, ⟨fA, fN, fC⟩, n4⟩, ⟨vA, vN, vC⟩, ⟨kA, kN, kC⟩, tf⟩, .bool true] Try.results41 (.cons (.cell (cs := Cnf.cs ⟨⟨t0, t1, t2, t3, ⟨eA, eN, eC⟩, ⟨fA, fN, fC⟩, n4⟩, ⟨vA, vN, vC⟩, ⟨kA, kN, kC⟩, tf⟩) (b := w.heap.size + 2) (off := 0) rfl rfl (cells_of_block x4) Try.underlying41 rfl (by kernel_rfl)) (.cons (.tmp rfl) .nil)) rfl ?_
 have far : ∀ {v : Value} {l : List Int}, OwnI w8 (w.heap.size + 3) v l → OwnI ((((((((((((w8.setCell ⟨w.heap.size + 1, 7, none⟩ (.slice vA vN vC)).setCell ⟨w.heap.size + 1, 6, none⟩ (.int .i64 n4)).setCell ⟨w.heap.size + 2, 0, none⟩ (.int .i64 t0)).setCell ⟨w.heap.size + 2, 1, none⟩ (.int .i64 t1)).setCell ⟨w.heap.size + 2, 2, none⟩ (.int .i64 t2)).setCell ⟨w.heap.size + 2, 3, none⟩ (.int .i64 t3)).setCell ⟨w.heap.size + 2, 4, none⟩ (.slice eA eN eC)).setCell ⟨w.heap.size + 2, 5, none⟩ (.slice fA fN fC)).setCell ⟨w.heap.size + 2, 6, none⟩ (.int .i64 n4)).setCell ⟨w.heap.size + 2, 7, none⟩ (.slice vA vN vC)).setCell ⟨w.heap.size + 2, 8, none⟩ (.slice kA kN kC)).setCell ⟨w.heap.size + 2, 9, none⟩ (.int .i64 tf)) (w.heap.size + 3) v l := fun h => by
  iterate 10 refine OwnI.far ?_ (by show w.heap.size + 2 < w.heap.size + 3; omega) _
  exact OwnI.far (OwnI.far h (by show w.heap.size + 1 < w.heap.size + 3; omega) _) (by show w.heap.size + 1 < w.heap.size + 3; omega) _
 have farE : ∀ {v : Value} {l : List Ent}, OwnE w8 (w.heap.size + 3) v l → OwnE ((((((((((((w8.setCell ⟨w.heap.size + 1, 7, none⟩ (.slice vA vN vC)).setCell ⟨w.heap.size + 1, 6, none⟩ (.int .i64 n4)).setCell ⟨w.heap.size + 2, 0, none⟩ (.int .i64 t0)).setCell ⟨w.heap.size + 2, 1, none⟩ (.int .i64 t1)).setCell ⟨w.heap.size + 2, 2, none⟩ (.int .i64 t2)).setCell ⟨w.heap.size + 2, 3, none⟩ (.int .i64 t3)).setCell ⟨w.heap.size + 2, 4, none⟩ (.slice eA eN eC)).setCell ⟨w.heap.size + 2, 5, none⟩ (.slice fA fN fC)).setCell ⟨w.heap.size + 2, 6, none⟩ (.int .i64 n4)).setCell ⟨w.heap.size + 2, 7, none⟩ (.slice vA vN vC)).setCell ⟨w.heap.size + 2, 8, none⟩ (.slice kA kN kC)).setCell ⟨w.heap.size + 2, 9, none⟩ (.int .i64 tf)) (w.heap.size + 3) v l := fun h => by
  iterate 10 refine OwnE.far ?_ (by show w.heap.size + 2 < w.heap.size + 3; omega) _
  exact OwnE.far (OwnE.far h (by show w.heap.size + 1 < w.heap.size + 3; omega) _) (by show w.heap.size + 1 < w.heap.size + 3; omega) _
 refine ⟨⟨⟨t0, t1, t2, t3, ⟨eA, eN, eC⟩, ⟨fA, fN, fC⟩, n4⟩, ⟨vA, vN, vC⟩, ⟨kA, kN, kC⟩, tf⟩, rfl, ?_, wb⟩
 rw [FM.out]
 exact Cf4.lower (B := w.heap.size + 3) ⟨CE.out.st.r0, CE.out.st.r1, CE.out.st.r2, CE.out.st.r3, far OM.out, far OS.out, rfl, farE OV.out, far RQ.out, CE.out.fin⟩ (by omega)
theorem pfetch_own (p : Prg) (il : List Inst) (c : Cnf) (m : Conf) (guess : Int) (w : World) (hp : PIs w p il) (hc : CfIs w c m)
  (hml : m.st.mem.length ≤ 1000) (hsl : m.st.stack.length ≤ 1000) (hbl : m.buf.length ≤ 1000) (hrl : m.rsb.length ≤ 1000) (hpc : -2 ≤ m.st.pc ∧ m.st.pc ≤ 1000000) :
  Calls Try.prog 41 #[p.v, c.v, .int .i64 guess] w (CfGot4 (fetchQ p.window il m guess) w) := by
 unfold fetchQ
 split
 ·rename_i h
  refine (pfetch_yes p il c m guess w hp hc hml hsl hbl hrl hpc h.1 h.2).mono ?_
  rintro en w' ⟨c', rfl, hc', hb⟩
  exact ⟨c', rfl, hc', hb⟩
 ·rename_i h
  refine (pfetch_no p il c m guess w hp hc hbl hrl (by omega)).mono ?_
  rintro en w' ⟨rfl, hb⟩
  exact ⟨Cnf.zero, rfl, Cf4.zero, hb⟩
theorem pfetch_any (p : Prg) (il : List Inst) (c : Cnf) (m : Conf) (guess : Int) (w : World) (hp : PIs w p il) (hc : CfIs w c m)
  (hml : m.st.mem.length ≤ 1000) (hsl : m.st.stack.length ≤ 1000) (hbl : m.buf.length ≤ 1000) (hrl : m.rsb.length ≤ 1000) (hpc : -2 ≤ m.st.pc ∧ m.st.pc ≤ 1000000) :
  Calls Try.prog 41 #[p.v, c.v, .int .i64 guess] w (CfGot (fetchQ p.window il m guess) w) := (pfetch_own p il c m guess w hp hc hml hsl hbl hrl hpc).mono fun _ _ h => h.got
end Go.Proofs.Ytchldbkjapnlcaa
end
