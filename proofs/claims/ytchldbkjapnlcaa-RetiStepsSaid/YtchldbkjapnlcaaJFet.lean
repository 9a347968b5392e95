/- The document's own answer, layer 14: an instruction is fetched. -/
import Derived.Test.YtchldbkjapnlcaaJe
set_option linter.unusedVariables false
set_option linter.unusedSimpArgs false
namespace Go.Proofs.Ytchldbkjapnlcaa
open Go.RowKit
section
theorem Below.keepTo {w0 w w' : World} {B g : Nat} (h : Below B w0 w) (hg : w.grownBy w' (some g)) (hB : B ≤ g) (hs : B ≤ w.heap.size) : Below B w0 w' := h.grown hg hs (fun k hk => by injection hk with hk; omega)
def fetchEnt (il : List Inst) (m : Conf) (guess : Int) : Ent × List Int :=
 let x := instAt il m.st.pc
 let e0 : Ent := ⟨m.st.pc, 0, 0, -1, m.st.pc + 1, false, false, false⟩
 if x.kind = 5 then ((if guess = 1 then { e0 with next := x.target } else e0), m.rsb)
 else if x.kind = 6 then ({ e0 with next := x.target, done := true }, m.rsb)
 else if x.kind = 7 then ({ e0 with next := guess }, m.rsb)
 else if x.kind = 9 then (match m.rsb.getLast? with | none => ({ e0 with next := guess }, m.rsb) | some t => ({ e0 with next := t }, m.rsb.dropLast))
 else if x.kind = 8 then ({ e0 with next := x.target, done := true, fault := (match realOf il m.st.stack m.buf with | none => true | some s => decide (4 ≤ s.length)) }, lastTwo (m.rsb ++ [m.st.pc + 1]))
 else if x.kind = 11 ∨ x.kind = 12 then ({ e0 with next := -1, done := true }, m.rsb)
 else (e0, m.rsb)
def fetchOf (il : List Inst) (m : Conf) (guess : Int) : Conf :=
 { m with st := { m.st with pc := (fetchEnt il m guess).1.next }, buf := m.buf ++ [(fetchEnt il m guess).1], rsb := (fetchEnt il m guess).2 }
theorem list_end {α : Type} (l : List α) : l = [] ∨ ∃ r x, l = r ++ [x] := by
 by_cases h : l = []
 ·exact .inl h
 ·exact .inr ⟨l.dropLast, l.getLast h, (List.dropLast_concat_getLast h).symm⟩
theorem RdI.take {w : World} {A : Option Addr} {l : List Int} (h : RdI w A l) {k : Nat} (hk : k ≤ l.length) : RdI w A (l.take k) := by
 have hl : (l.take k).length = k := by simp; omega
 unfold RdI
 rw [hl]
 refine ⟨by rw [intCs_length, hl]; omega, fun hn => ?_⟩
 obtain ⟨ad, e, h1, h2, h3⟩ := h.2 (by omega)
 refine ⟨ad, e, h1, h2, fun j u hu => h3 j u ?_⟩
 simp only [intCs, List.map_take] at hu ⊢
 rw [List.getElem?_take] at hu
 split at hu
 ·exact hu
 ·cases hu
theorem RdI.init {w : World} {A : Option Addr} {l : List Int} {x : Int} (h : RdI w A (l ++ [x])) : RdI w A l := by
 have := h.take (k := l.length) (by simp)
 rwa [List.take_left' rfl] at this
theorem RdI.lastEl {w : World} {A : Option Addr} {l : List Int} {x : Int} (h : RdI w A (l ++ [x])) : ∃ b o, A = some ⟨b, o, none⟩ ∧ b < w.heap.size ∧ w.cell? ⟨b, o + l.length, none⟩ = some (.int .i64 x) := by
 obtain ⟨b, o, e, hb, hc⟩ := h.at_ (i := l.length) (by simp)
 exact ⟨b, o, e, hb, by simpa using hc⟩
set_option maxRecDepth 100000 in
set_option maxHeartbeats 60000000 in
theorem fetch_at (p : Prg) (il : List Inst) (c : Cnf) (m : Conf) (guess : Int) (w : World) (hp : PIs w p il) (hc : CfIs w c m) (hty : CfTy w c)
  (hln : m.buf.length ≤ 1000) (hsl : m.st.stack.length ≤ 1000) (hrl : m.rsb.length ≤ 1000) (hpcb : -2 ≤ m.st.pc ∧ m.st.pc ≤ 1000000) (hg0 : 0 ≤ guess) (hg : guess < guessesOf p.window il m) :
  Calls Try.prog 45 #[p.v, c.v, .int .i64 guess] w (CfAnd (fetchOf il m guess) w) := by
 have HC := Kept.mk hc
 have HP := Kept.mk hp
 have RS0 := Kept.mk (CfRest.of hc hty)
 have HG := Kept.mk (fun w1 h1 h2 => guesses_ref p il c m w1 h1 h2 (by omega) (by omega))
 have hfin : m.fin = 0 := by
  unfold guessesOf at hg
  split at hg
  ·omega
  ·omega
 generalize guessesOf p.window il m = gs at hg HG
 clear hp
 obtain ⟨⟨r0, r1, r2, r3, ⟨mA, mN, mC⟩, ⟨sA, sN, sC⟩, pc⟩, ⟨bA, bN, bC⟩, ⟨qA, qN, qC⟩, fin⟩ := c
 obtain ⟨⟨q0, q1, q2, q3, mem, stack, qc⟩, l, rsb, qf⟩ := m
 obtain ⟨⟨h0, h1, h2, h3, ⟨hmn, hmc, hmr⟩, ⟨hsn, hsc, hsr⟩, hpc⟩, ⟨hbn, hbc, hbr⟩, ⟨hqn, hqc, hqr⟩, hf⟩ := hc
 simp only at h0 h1 h2 h3 hpc hf hbn hbc hbr hln hmn hmc hmr hsn hsc hsr hsl hfin hqn hqc hqr hrl hpcb
 subst h0 h1 h2 h3 hpc hf hbn hmn hsn hqn
 subst hfin
 simp only at HG HC RS0 ⊢
 have HBR := Kept.mk hbr
 have HQR := Kept.mk hqr
 have HSR := Kept.mk hsr
 obtain ⟨hp0, hp1⟩ := hpcb
 clear hmr hsr hbr hqr hty
 generalize hF : fetchOf il ⟨⟨r0, r1, r2, r3, mem, stack, pc⟩, l, rsb, 0⟩ guess = FO
 unfold fetchOf fetchEnt at hF
 simp only at hF
 generalize hx : instAt il pc = x at hF
 have HAT : Kept (∀ w1, PIs w1 p il → Calls Try.prog 62 #[p.v, .int .i64 pc] w1 fun en w' => en = .returned x.v ∧ Below w1.heap.size w1 w') := ⟨fun w1 h => by rw [← hx]; exact at7 p il pc w1 h⟩
 have HFO := Kept.mk hF
 clear hx hF
 go_enter Try.func45, Try.ntmps45
 go_wp2_with fail
 have HB := Kept.mk (((q00 w (.cells p.cs.toArray 33)).alloc (by simp) (.cells (Cnf.cs ⟨⟨r0, r1, r2, r3, ⟨mA, mem.length, mC⟩, ⟨sA, stack.length, sC⟩, pc⟩, ⟨bA, l.length, bC⟩, ⟨qA, rsb.length, qC⟩, 0⟩).toArray 41)).alloc (by simp; omega) (.cells Cnf.zero.cs.toArray 41))
 refine (HG.out _ (HP.out.past HB.out) (HC.out.past HB.out)).mono ?_
 rintro en w1 ⟨rfl, b1⟩
 have W1 := Kept.mk (HB.out.trans (b1.mono HB.out.size))
 have X3 := (b1.block w.heap.size (by simp <;> omega)).trans ((heap_alloc_old _ _ (by simp; omega)).trans ((heap_alloc_old _ _ (by simp)).trans (heap_alloc_new w (.cells p.cs.toArray 33))))
 have X4 := (b1.block (w.heap.size + 1) (by simp <;> omega)).trans ((heap_alloc_old _ _ (by simp)).trans (heap_alloc2_new w (.cells p.cs.toArray 33) (.cells (Cnf.cs ⟨⟨r0, r1, r2, r3, ⟨mA, mem.length, mC⟩, ⟨sA, stack.length, sC⟩, pc⟩, ⟨bA, l.length, bC⟩, ⟨qA, rsb.length, qC⟩, 0⟩).toArray 41)))
 have X6 := (b1.block (w.heap.size + 1 + 1) (by simp <;> omega)).trans (q06 (o := (.cells Cnf.zero.cs.toArray 41)) (by simp))
 have S1 : w.heap.size + 3 ≤ w1.heap.size := by have := b1.size; simp at this; omega
 have Y3 := fun j => cell_of_row w1 w.heap.size j _ _ _ X3
 have Y4 := fun j => cell_of_row w1 (w.heap.size + 1) j _ _ _ X4
 simp only [Prg.cs, Cnf.cs] at Y3 Y4
 have K3 := Kept.mk X3
 have K4 := Kept.mk X4
 have K6 := Kept.mk X6
 clear X3 X4 X6 b1
 go_wp2_with fail
 refine (HAT.out _ (HP.out.past W1.out)).mono ?_
 rintro en w2 ⟨rfl, b2⟩
 have W2 := Kept.mk (W1.out.trans (b2.mono W1.out.size))
 have X3 := q01 K3.out b2
 have X4 := q01 K4.out b2
 have X6 := q01 K6.out b2
 have S2 : w1.heap.size ≤ w2.heap.size := b2.size
 clear Y3 Y4 K3 K4 K6 b2 HAT HG
 have K3 := Kept.mk X3
 have K4 := Kept.mk X4
 have K6 := Kept.mk X6
 clear X3 X4 X6
 have HO4 : Kept (0 < l.length → ∀ ad, bA = some ad → ad.block ≠ w.heap.size + 1) := ⟨fun h ad he => by
  obtain ⟨ad', e', _, hb', _⟩ := HBR.out.2 h
  rw [he] at e'
  injection e' with e'
  subst e'
  omega⟩
 obtain ⟨kind, op, xd, ar, an, br, bn, name, target⟩ := x
 simp only at HFO ⊢
 by_cases hk5 : kind = 5
 ·subst hk5
  by_cases hg1 : guess = 1
  ·subst hg1
   have hF := HFO.out
   rw [if_pos rfl, if_pos rfl] at hF
   have HF := Kept.mk hF
   clear hF HFO
   go_upto_region 27 with (fail)
   have bI := q00 w2 (.cells #[.int .i64 5, .int .i64 op, .int .i64 xd, .bool ar, .int .i64 an, .bool br, .int .i64 bn, .string name, .int .i64 target] 53)
   have bE := q00 (w2.alloc (.cells #[.int .i64 5, .int .i64 op, .int .i64 xd, .bool ar, .int .i64 an, .bool br, .int .i64 bn, .string name, .int .i64 target] 53)) (.cells #[.int .i64 pc, .int .i64 0, .int .i64 0, .int .i64 (-1), .int .i64 (target), .bool false, .bool false, .bool false] 55)
   have X4 := Kept.mk (q01 (q01 K4.out bI) bE)
   have X6 := Kept.mk (q01 (q01 K6.out bI) bE)
   have X10 := Kept.mk (q06 (W := w2.alloc (.cells #[.int .i64 5, .int .i64 op, .int .i64 xd, .bool ar, .int .i64 an, .bool br, .int .i64 bn, .string name, .int .i64 target] 53)) (o := (.cells #[.int .i64 pc, .int .i64 0, .int .i64 0, .int .i64 (-1), .int .i64 (target), .bool false, .bool false, .bool false] 55)) (g := w2.heap.size + 1) (by simp))
   have WB := Kept.mk ((W2.out.trans (bI.mono W2.out.size)).trans (bE.mono (by simp; omega)))
   have RS := Kept.mk (((RS0.out.past W2.out).past bI).past bE)
   have HBL := Kept.mk (((HBR.out.past W2.out).past bI).past bE)
   have HS10 : w2.heap.size + 1 < ((w2.alloc (.cells #[.int .i64 5, .int .i64 op, .int .i64 xd, .bool ar, .int .i64 an, .bool br, .int .i64 bn, .string name, .int .i64 target] 53)).alloc (.cells #[.int .i64 pc, .int .i64 0, .int .i64 0, .int .i64 (-1), .int .i64 (target), .bool false, .bool false, .bool false] 55)).heap.size := by simp
   have HSW : w.heap.size + 3 ≤ ((w2.alloc (.cells #[.int .i64 5, .int .i64 op, .int .i64 xd, .bool ar, .int .i64 an, .bool br, .int .i64 bn, .string name, .int .i64 target] 53)).alloc (.cells #[.int .i64 pc, .int .i64 0, .int .i64 0, .int .i64 (-1), .int .i64 (target), .bool false, .bool false, .bool false] 55)).heap.size := by simp; omega
   clear bI bE
   refine q25 ((w2.alloc (.cells #[.int .i64 5, .int .i64 op, .int .i64 xd, .bool ar, .int .i64 an, .bool br, .int .i64 bn, .string name, .int .i64 target] 53)).alloc (.cells #[.int .i64 pc, .int .i64 0, .int .i64 0, .int .i64 (-1), .int .i64 (target), .bool false, .bool false, .bool false] 55)) (w.heap.size + 1) (w2.heap.size + 1) _ ⟨⟨r0, r1, r2, r3, ⟨mA, mem.length, mC⟩, ⟨sA, stack.length, sC⟩, pc⟩, ⟨bA, l.length, bC⟩, ⟨qA, rsb.length, qC⟩, 0⟩ ⟨pc, 0, 0, -1, target, false, false, false⟩ l X4 X10 HBL ⟨rfl⟩ HO4 hln rfl (by omega) HS10 (by omega) _ ?_
   rintro _ _ _ _ _ _ _ _ wf s hown hx4 hgr
   have X4f := hx4
   have X10f := (hgr.block (w2.heap.size + 1) HS10 (by intro h; injection h with h; omega)).trans X10.out
   have X6f := (hgr.block (w.heap.size + 1 + 1) (by omega) (by intro h; injection h with h; omega)).trans X6.out
   have R1 := RS.out.row ⟨⟨_, X4.out⟩, hgr⟩ (by decide)
   have hgs : ((w2.alloc (.cells #[.int .i64 5, .int .i64 op, .int .i64 xd, .bool ar, .int .i64 an, .bool br, .int .i64 bn, .string name, .int .i64 target] 53)).alloc (.cells #[.int .i64 pc, .int .i64 0, .int .i64 0, .int .i64 (-1), .int .i64 (target), .bool false, .bool false, .bool false] 55)).heap.size ≤ wf.heap.size := hgr.size
   have Y4 := fun j => cell_of_row wf (w.heap.size + 1) j _ _ _ X4f
   have F4 := fun j => frozen_of_row wf (w.heap.size + 1) j _ _ X4f
   have Y10 := fun j => cell_of_row wf ((w2.heap.size + 1)) j _ _ _ X10f
   have Y6 := fun j => cell_of_row wf (w.heap.size + 1 + 1) j _ _ _ X6f
   have F6 := fun j => frozen_of_row wf (w.heap.size + 1 + 1) j _ _ X6f
   simp only [Cnf.cs, Cnf.zero, Sl.none] at Y4 Y10 Y6
   have B1 := Kept.mk (Below.keepTo WB.out hgr (show w.heap.size ≤ w.heap.size + 1 by omega) WB.out.size)
   have R2 := Kept.mk (R1.row (q0F (j := 6) X4f (.int .i64 (Ent.next ⟨pc, 0, 0, -1, target, false, false, false⟩))) (by decide))
   have B2 := Kept.mk (B1.out.setCell (p := ⟨w.heap.size + 1, 6, none⟩) (show w.heap.size ≤ w.heap.size + 1 by omega) (.int .i64 (Ent.next ⟨pc, 0, 0, -1, target, false, false, false⟩)))
   have X6g := Kept.mk (q03 (p := ⟨w.heap.size + 1, 6, none⟩) (u := .int .i64 (Ent.next ⟨pc, 0, 0, -1, target, false, false, false⟩)) X6f (by simp))
   have O2 := Kept.mk (OwnE.far hown (p := ⟨w.heap.size + 1, 6, none⟩) (by show w.heap.size + 1 < ((w2.alloc (.cells #[.int .i64 5, .int .i64 op, .int .i64 xd, .bool ar, .int .i64 an, .bool br, .int .i64 bn, .string name, .int .i64 target] 53)).alloc (.cells #[.int .i64 pc, .int .i64 0, .int .i64 0, .int .i64 (-1), .int .i64 (target), .bool false, .bool false, .bool false] 55)).heap.size; omega) (.int .i64 (Ent.next ⟨pc, 0, 0, -1, target, false, false, false⟩)))
   clear hown hx4 hgr X4f X10f X6f R1 X4 X6 X10 RS WB HBL
   go_wp2_with fail
   have R3 := R2.out.row ⟨⟨_, X6g.out⟩, grown10 _ (w.heap.size + 1 + 1) ⟨⟨r0, r1, r2, r3, ⟨mA, mem.length, mC⟩, ⟨sA, stack.length, sC⟩, (Ent.next ⟨pc, 0, 0, -1, target, false, false, false⟩)⟩, s, ⟨qA, rsb.length, qC⟩, 0⟩⟩ (by decide)
   have B3 := below10 (g := w.heap.size + 1 + 1) ⟨⟨r0, r1, r2, r3, ⟨mA, mem.length, mC⟩, ⟨sA, stack.length, sC⟩, (Ent.next ⟨pc, 0, 0, -1, target, false, false, false⟩)⟩, s, ⟨qA, rsb.length, qC⟩, 0⟩ B2.out (by omega)
   have O3 := own10 (g := w.heap.size + 1 + 1) ⟨⟨r0, r1, r2, r3, ⟨mA, mem.length, mC⟩, ⟨sA, stack.length, sC⟩, (Ent.next ⟨pc, 0, 0, -1, target, false, false, false⟩)⟩, s, ⟨qA, rsb.length, qC⟩, 0⟩ O2.out (by omega)
   have X3 := q11 Cnf.zero ⟨⟨r0, r1, r2, r3, ⟨mA, mem.length, mC⟩, ⟨sA, stack.length, sC⟩, (Ent.next ⟨pc, 0, 0, -1, target, false, false, false⟩)⟩, s, ⟨qA, rsb.length, qC⟩, 0⟩ X6g.out
   dsimp only at R3 B3 O3 X3
   refine q0C _ [Cnf.v ⟨⟨r0, r1, r2, r3, ⟨mA, mem.length, mC⟩, ⟨sA, stack.length, sC⟩, (Ent.next ⟨pc, 0, 0, -1, target, false, false, false⟩)⟩, s, ⟨qA, rsb.length, qC⟩, 0⟩, .bool true] Try.results45 (.cons (.cell (cs := Cnf.cs ⟨⟨r0, r1, r2, r3, ⟨mA, mem.length, mC⟩, ⟨sA, stack.length, sC⟩, (Ent.next ⟨pc, 0, 0, -1, target, false, false, false⟩)⟩, s, ⟨qA, rsb.length, qC⟩, 0⟩) (b := w.heap.size + 1 + 1) (off := 0) rfl rfl (q05 X3) Try.underlying41 rfl (by kernel_rfl)) (.cons (.tmp rfl) .nil)) rfl ?_
   rw [← HF.out]
   exact ⟨⟨⟨r0, r1, r2, r3, ⟨mA, mem.length, mC⟩, ⟨sA, stack.length, sC⟩, (Ent.next ⟨pc, 0, 0, -1, target, false, false, false⟩)⟩, s, ⟨qA, rsb.length, qC⟩, 0⟩, rfl, ⟨⟨rfl, rfl, rfl, rfl, R3.xa, R3.xb, rfl⟩, OwnE.is (s := s) O3, R3.xc, rfl⟩, ⟨R3.ta, R3.tb, Tag.of_own O3, R3.tc⟩, B3⟩
  ·skip
   have hF := HFO.out
   rw [if_pos rfl, if_neg hg1] at hF
   have HF := Kept.mk hF
   clear hF HFO
   have hg1' : (guess == 1) = false := by simp [hg1]
   clear hg1
   go_upto_region 27 with (fail)
   have bI := q00 w2 (.cells #[.int .i64 5, .int .i64 op, .int .i64 xd, .bool ar, .int .i64 an, .bool br, .int .i64 bn, .string name, .int .i64 target] 53)
   have bE := q00 (w2.alloc (.cells #[.int .i64 5, .int .i64 op, .int .i64 xd, .bool ar, .int .i64 an, .bool br, .int .i64 bn, .string name, .int .i64 target] 53)) (.cells #[.int .i64 pc, .int .i64 0, .int .i64 0, .int .i64 (-1), .int .i64 (pc + 1), .bool false, .bool false, .bool false] 55)
   have X4 := Kept.mk (q01 (q01 K4.out bI) bE)
   have X6 := Kept.mk (q01 (q01 K6.out bI) bE)
   have X10 := Kept.mk (q06 (W := w2.alloc (.cells #[.int .i64 5, .int .i64 op, .int .i64 xd, .bool ar, .int .i64 an, .bool br, .int .i64 bn, .string name, .int .i64 target] 53)) (o := (.cells #[.int .i64 pc, .int .i64 0, .int .i64 0, .int .i64 (-1), .int .i64 (pc + 1), .bool false, .bool false, .bool false] 55)) (g := w2.heap.size + 1) (by simp))
   have WB := Kept.mk ((W2.out.trans (bI.mono W2.out.size)).trans (bE.mono (by simp; omega)))
   have RS := Kept.mk (((RS0.out.past W2.out).past bI).past bE)
   have HBL := Kept.mk (((HBR.out.past W2.out).past bI).past bE)
   have HS10 : w2.heap.size + 1 < ((w2.alloc (.cells #[.int .i64 5, .int .i64 op, .int .i64 xd, .bool ar, .int .i64 an, .bool br, .int .i64 bn, .string name, .int .i64 target] 53)).alloc (.cells #[.int .i64 pc, .int .i64 0, .int .i64 0, .int .i64 (-1), .int .i64 (pc + 1), .bool false, .bool false, .bool false] 55)).heap.size := by simp
   have HSW : w.heap.size + 3 ≤ ((w2.alloc (.cells #[.int .i64 5, .int .i64 op, .int .i64 xd, .bool ar, .int .i64 an, .bool br, .int .i64 bn, .string name, .int .i64 target] 53)).alloc (.cells #[.int .i64 pc, .int .i64 0, .int .i64 0, .int .i64 (-1), .int .i64 (pc + 1), .bool false, .bool false, .bool false] 55)).heap.size := by simp; omega
   clear bI bE
   refine q25 ((w2.alloc (.cells #[.int .i64 5, .int .i64 op, .int .i64 xd, .bool ar, .int .i64 an, .bool br, .int .i64 bn, .string name, .int .i64 target] 53)).alloc (.cells #[.int .i64 pc, .int .i64 0, .int .i64 0, .int .i64 (-1), .int .i64 (pc + 1), .bool false, .bool false, .bool false] 55)) (w.heap.size + 1) (w2.heap.size + 1) _ ⟨⟨r0, r1, r2, r3, ⟨mA, mem.length, mC⟩, ⟨sA, stack.length, sC⟩, pc⟩, ⟨bA, l.length, bC⟩, ⟨qA, rsb.length, qC⟩, 0⟩ ⟨pc, 0, 0, -1, pc + 1, false, false, false⟩ l X4 X10 HBL ⟨rfl⟩ HO4 hln rfl (by omega) HS10 (by omega) _ ?_
   rintro _ _ _ _ _ _ _ _ wf s hown hx4 hgr
   have X4f := hx4
   have X10f := (hgr.block (w2.heap.size + 1) HS10 (by intro h; injection h with h; omega)).trans X10.out
   have X6f := (hgr.block (w.heap.size + 1 + 1) (by omega) (by intro h; injection h with h; omega)).trans X6.out
   have R1 := RS.out.row ⟨⟨_, X4.out⟩, hgr⟩ (by decide)
   have hgs : ((w2.alloc (.cells #[.int .i64 5, .int .i64 op, .int .i64 xd, .bool ar, .int .i64 an, .bool br, .int .i64 bn, .string name, .int .i64 target] 53)).alloc (.cells #[.int .i64 pc, .int .i64 0, .int .i64 0, .int .i64 (-1), .int .i64 (pc + 1), .bool false, .bool false, .bool false] 55)).heap.size ≤ wf.heap.size := hgr.size
   have Y4 := fun j => cell_of_row wf (w.heap.size + 1) j _ _ _ X4f
   have F4 := fun j => frozen_of_row wf (w.heap.size + 1) j _ _ X4f
   have Y10 := fun j => cell_of_row wf ((w2.heap.size + 1)) j _ _ _ X10f
   have Y6 := fun j => cell_of_row wf (w.heap.size + 1 + 1) j _ _ _ X6f
   have F6 := fun j => frozen_of_row wf (w.heap.size + 1 + 1) j _ _ X6f
   simp only [Cnf.cs, Cnf.zero, Sl.none] at Y4 Y10 Y6
   have B1 := Kept.mk (Below.keepTo WB.out hgr (show w.heap.size ≤ w.heap.size + 1 by omega) WB.out.size)
   have R2 := Kept.mk (R1.row (q0F (j := 6) X4f (.int .i64 (Ent.next ⟨pc, 0, 0, -1, pc + 1, false, false, false⟩))) (by decide))
   have B2 := Kept.mk (B1.out.setCell (p := ⟨w.heap.size + 1, 6, none⟩) (show w.heap.size ≤ w.heap.size + 1 by omega) (.int .i64 (Ent.next ⟨pc, 0, 0, -1, pc + 1, false, false, false⟩)))
   have X6g := Kept.mk (q03 (p := ⟨w.heap.size + 1, 6, none⟩) (u := .int .i64 (Ent.next ⟨pc, 0, 0, -1, pc + 1, false, false, false⟩)) X6f (by simp))
   have O2 := Kept.mk (OwnE.far hown (p := ⟨w.heap.size + 1, 6, none⟩) (by show w.heap.size + 1 < ((w2.alloc (.cells #[.int .i64 5, .int .i64 op, .int .i64 xd, .bool ar, .int .i64 an, .bool br, .int .i64 bn, .string name, .int .i64 target] 53)).alloc (.cells #[.int .i64 pc, .int .i64 0, .int .i64 0, .int .i64 (-1), .int .i64 (pc + 1), .bool false, .bool false, .bool false] 55)).heap.size; omega) (.int .i64 (Ent.next ⟨pc, 0, 0, -1, pc + 1, false, false, false⟩)))
   clear hown hx4 hgr X4f X10f X6f R1 X4 X6 X10 RS WB HBL
   go_wp2_with fail
   have R3 := R2.out.row ⟨⟨_, X6g.out⟩, grown10 _ (w.heap.size + 1 + 1) ⟨⟨r0, r1, r2, r3, ⟨mA, mem.length, mC⟩, ⟨sA, stack.length, sC⟩, (Ent.next ⟨pc, 0, 0, -1, pc + 1, false, false, false⟩)⟩, s, ⟨qA, rsb.length, qC⟩, 0⟩⟩ (by decide)
   have B3 := below10 (g := w.heap.size + 1 + 1) ⟨⟨r0, r1, r2, r3, ⟨mA, mem.length, mC⟩, ⟨sA, stack.length, sC⟩, (Ent.next ⟨pc, 0, 0, -1, pc + 1, false, false, false⟩)⟩, s, ⟨qA, rsb.length, qC⟩, 0⟩ B2.out (by omega)
   have O3 := own10 (g := w.heap.size + 1 + 1) ⟨⟨r0, r1, r2, r3, ⟨mA, mem.length, mC⟩, ⟨sA, stack.length, sC⟩, (Ent.next ⟨pc, 0, 0, -1, pc + 1, false, false, false⟩)⟩, s, ⟨qA, rsb.length, qC⟩, 0⟩ O2.out (by omega)
   have X3 := q11 Cnf.zero ⟨⟨r0, r1, r2, r3, ⟨mA, mem.length, mC⟩, ⟨sA, stack.length, sC⟩, (Ent.next ⟨pc, 0, 0, -1, pc + 1, false, false, false⟩)⟩, s, ⟨qA, rsb.length, qC⟩, 0⟩ X6g.out
   dsimp only at R3 B3 O3 X3
   refine q0C _ [Cnf.v ⟨⟨r0, r1, r2, r3, ⟨mA, mem.length, mC⟩, ⟨sA, stack.length, sC⟩, (Ent.next ⟨pc, 0, 0, -1, pc + 1, false, false, false⟩)⟩, s, ⟨qA, rsb.length, qC⟩, 0⟩, .bool true] Try.results45 (.cons (.cell (cs := Cnf.cs ⟨⟨r0, r1, r2, r3, ⟨mA, mem.length, mC⟩, ⟨sA, stack.length, sC⟩, (Ent.next ⟨pc, 0, 0, -1, pc + 1, false, false, false⟩)⟩, s, ⟨qA, rsb.length, qC⟩, 0⟩) (b := w.heap.size + 1 + 1) (off := 0) rfl rfl (q05 X3) Try.underlying41 rfl (by kernel_rfl)) (.cons (.tmp rfl) .nil)) rfl ?_
   rw [← HF.out]
   exact ⟨⟨⟨r0, r1, r2, r3, ⟨mA, mem.length, mC⟩, ⟨sA, stack.length, sC⟩, (Ent.next ⟨pc, 0, 0, -1, pc + 1, false, false, false⟩)⟩, s, ⟨qA, rsb.length, qC⟩, 0⟩, rfl, ⟨⟨rfl, rfl, rfl, rfl, R3.xa, R3.xb, rfl⟩, OwnE.is (s := s) O3, R3.xc, rfl⟩, ⟨R3.ta, R3.tb, Tag.of_own O3, R3.tc⟩, B3⟩
 by_cases hk6 : kind = 6
 ·subst hk6
  have hF := HFO.out
  rw [if_neg (show ¬ (6 : Int) = 5 by omega), if_pos rfl] at hF
  have HF := Kept.mk hF
  clear hF HFO
  go_upto_region 27 with (fail)
  have bI := q00 w2 (.cells #[.int .i64 6, .int .i64 op, .int .i64 xd, .bool ar, .int .i64 an, .bool br, .int .i64 bn, .string name, .int .i64 target] 53)
  have bE := q00 (w2.alloc (.cells #[.int .i64 6, .int .i64 op, .int .i64 xd, .bool ar, .int .i64 an, .bool br, .int .i64 bn, .string name, .int .i64 target] 53)) (.cells #[.int .i64 pc, .int .i64 0, .int .i64 0, .int .i64 (-1), .int .i64 (target), .bool true, .bool false, .bool false] 55)
  have X4 := Kept.mk (q01 (q01 K4.out bI) bE)
  have X6 := Kept.mk (q01 (q01 K6.out bI) bE)
  have X10 := Kept.mk (q06 (W := w2.alloc (.cells #[.int .i64 6, .int .i64 op, .int .i64 xd, .bool ar, .int .i64 an, .bool br, .int .i64 bn, .string name, .int .i64 target] 53)) (o := (.cells #[.int .i64 pc, .int .i64 0, .int .i64 0, .int .i64 (-1), .int .i64 (target), .bool true, .bool false, .bool false] 55)) (g := w2.heap.size + 1) (by simp))
  have WB := Kept.mk ((W2.out.trans (bI.mono W2.out.size)).trans (bE.mono (by simp; omega)))
  have RS := Kept.mk (((RS0.out.past W2.out).past bI).past bE)
  have HBL := Kept.mk (((HBR.out.past W2.out).past bI).past bE)
  have HS10 : w2.heap.size + 1 < ((w2.alloc (.cells #[.int .i64 6, .int .i64 op, .int .i64 xd, .bool ar, .int .i64 an, .bool br, .int .i64 bn, .string name, .int .i64 target] 53)).alloc (.cells #[.int .i64 pc, .int .i64 0, .int .i64 0, .int .i64 (-1), .int .i64 (target), .bool true, .bool false, .bool false] 55)).heap.size := by simp
  have HSW : w.heap.size + 3 ≤ ((w2.alloc (.cells #[.int .i64 6, .int .i64 op, .int .i64 xd, .bool ar, .int .i64 an, .bool br, .int .i64 bn, .string name, .int .i64 target] 53)).alloc (.cells #[.int .i64 pc, .int .i64 0, .int .i64 0, .int .i64 (-1), .int .i64 (target), .bool true, .bool false, .bool false] 55)).heap.size := by simp; omega
  clear bI bE
  refine q25 ((w2.alloc (.cells #[.int .i64 6, .int .i64 op, .int .i64 xd, .bool ar, .int .i64 an, .bool br, .int .i64 bn, .string name, .int .i64 target] 53)).alloc (.cells #[.int .i64 pc, .int .i64 0, .int .i64 0, .int .i64 (-1), .int .i64 (target), .bool true, .bool false, .bool false] 55)) (w.heap.size + 1) (w2.heap.size + 1) _ ⟨⟨r0, r1, r2, r3, ⟨mA, mem.length, mC⟩, ⟨sA, stack.length, sC⟩, pc⟩, ⟨bA, l.length, bC⟩, ⟨qA, rsb.length, qC⟩, 0⟩ ⟨pc, 0, 0, -1, target, true, false, false⟩ l X4 X10 HBL ⟨rfl⟩ HO4 hln rfl (by omega) HS10 (by omega) _ ?_
  rintro _ _ _ _ _ _ _ _ wf s hown hx4 hgr
  have X4f := hx4
  have X10f := (hgr.block (w2.heap.size + 1) HS10 (by intro h; injection h with h; omega)).trans X10.out
  have X6f := (hgr.block (w.heap.size + 1 + 1) (by omega) (by intro h; injection h with h; omega)).trans X6.out
  have R1 := RS.out.row ⟨⟨_, X4.out⟩, hgr⟩ (by decide)
  have hgs : ((w2.alloc (.cells #[.int .i64 6, .int .i64 op, .int .i64 xd, .bool ar, .int .i64 an, .bool br, .int .i64 bn, .string name, .int .i64 target] 53)).alloc (.cells #[.int .i64 pc, .int .i64 0, .int .i64 0, .int .i64 (-1), .int .i64 (target), .bool true, .bool false, .bool false] 55)).heap.size ≤ wf.heap.size := hgr.size
  have Y4 := fun j => cell_of_row wf (w.heap.size + 1) j _ _ _ X4f
  have F4 := fun j => frozen_of_row wf (w.heap.size + 1) j _ _ X4f
  have Y10 := fun j => cell_of_row wf ((w2.heap.size + 1)) j _ _ _ X10f
  have Y6 := fun j => cell_of_row wf (w.heap.size + 1 + 1) j _ _ _ X6f
  have F6 := fun j => frozen_of_row wf (w.heap.size + 1 + 1) j _ _ X6f
  simp only [Cnf.cs, Cnf.zero, Sl.none] at Y4 Y10 Y6
  have B1 := Kept.mk (Below.keepTo WB.out hgr (show w.heap.size ≤ w.heap.size + 1 by omega) WB.out.size)
  have R2 := Kept.mk (R1.row (q0F (j := 6) X4f (.int .i64 (Ent.next ⟨pc, 0, 0, -1, target, true, false, false⟩))) (by decide))
  have B2 := Kept.mk (B1.out.setCell (p := ⟨w.heap.size + 1, 6, none⟩) (show w.heap.size ≤ w.heap.size + 1 by omega) (.int .i64 (Ent.next ⟨pc, 0, 0, -1, target, true, false, false⟩)))
  have X6g := Kept.mk (q03 (p := ⟨w.heap.size + 1, 6, none⟩) (u := .int .i64 (Ent.next ⟨pc, 0, 0, -1, target, true, false, false⟩)) X6f (by simp))
  have O2 := Kept.mk (OwnE.far hown (p := ⟨w.heap.size + 1, 6, none⟩) (by show w.heap.size + 1 < ((w2.alloc (.cells #[.int .i64 6, .int .i64 op, .int .i64 xd, .bool ar, .int .i64 an, .bool br, .int .i64 bn, .string name, .int .i64 target] 53)).alloc (.cells #[.int .i64 pc, .int .i64 0, .int .i64 0, .int .i64 (-1), .int .i64 (target), .bool true, .bool false, .bool false] 55)).heap.size; omega) (.int .i64 (Ent.next ⟨pc, 0, 0, -1, target, true, false, false⟩)))
  clear hown hx4 hgr X4f X10f X6f R1 X4 X6 X10 RS WB HBL
  go_wp2_with fail
  have R3 := R2.out.row ⟨⟨_, X6g.out⟩, grown10 _ (w.heap.size + 1 + 1) ⟨⟨r0, r1, r2, r3, ⟨mA, mem.length, mC⟩, ⟨sA, stack.length, sC⟩, (Ent.next ⟨pc, 0, 0, -1, target, true, false, false⟩)⟩, s, ⟨qA, rsb.length, qC⟩, 0⟩⟩ (by decide)
  have B3 := below10 (g := w.heap.size + 1 + 1) ⟨⟨r0, r1, r2, r3, ⟨mA, mem.length, mC⟩, ⟨sA, stack.length, sC⟩, (Ent.next ⟨pc, 0, 0, -1, target, true, false, false⟩)⟩, s, ⟨qA, rsb.length, qC⟩, 0⟩ B2.out (by omega)
  have O3 := own10 (g := w.heap.size + 1 + 1) ⟨⟨r0, r1, r2, r3, ⟨mA, mem.length, mC⟩, ⟨sA, stack.length, sC⟩, (Ent.next ⟨pc, 0, 0, -1, target, true, false, false⟩)⟩, s, ⟨qA, rsb.length, qC⟩, 0⟩ O2.out (by omega)
  have X3 := q11 Cnf.zero ⟨⟨r0, r1, r2, r3, ⟨mA, mem.length, mC⟩, ⟨sA, stack.length, sC⟩, (Ent.next ⟨pc, 0, 0, -1, target, true, false, false⟩)⟩, s, ⟨qA, rsb.length, qC⟩, 0⟩ X6g.out
  dsimp only at R3 B3 O3 X3
  refine q0C _ [Cnf.v ⟨⟨r0, r1, r2, r3, ⟨mA, mem.length, mC⟩, ⟨sA, stack.length, sC⟩, (Ent.next ⟨pc, 0, 0, -1, target, true, false, false⟩)⟩, s, ⟨qA, rsb.length, qC⟩, 0⟩, .bool true] Try.results45 (.cons (.cell (cs := Cnf.cs ⟨⟨r0, r1, r2, r3, ⟨mA, mem.length, mC⟩, ⟨sA, stack.length, sC⟩, (Ent.next ⟨pc, 0, 0, -1, target, true, false, false⟩)⟩, s, ⟨qA, rsb.length, qC⟩, 0⟩) (b := w.heap.size + 1 + 1) (off := 0) rfl rfl (q05 X3) Try.underlying41 rfl (by kernel_rfl)) (.cons (.tmp rfl) .nil)) rfl ?_
  rw [← HF.out]
  exact ⟨⟨⟨r0, r1, r2, r3, ⟨mA, mem.length, mC⟩, ⟨sA, stack.length, sC⟩, (Ent.next ⟨pc, 0, 0, -1, target, true, false, false⟩)⟩, s, ⟨qA, rsb.length, qC⟩, 0⟩, rfl, ⟨⟨rfl, rfl, rfl, rfl, R3.xa, R3.xb, rfl⟩, OwnE.is (s := s) O3, R3.xc, rfl⟩, ⟨R3.ta, R3.tb, Tag.of_own O3, R3.tc⟩, B3⟩
 by_cases hk7 : kind = 7
 ·subst hk7
  have hF := HFO.out
  rw [if_neg (show ¬ (7 : Int) = 5 by omega), if_neg (show ¬ (7 : Int) = 6 by omega), if_pos rfl] at hF
  have HF := Kept.mk hF
  clear hF HFO
  go_upto_region 27 with (fail)
  have bI := q00 w2 (.cells #[.int .i64 7, .int .i64 op, .int .i64 xd, .bool ar, .int .i64 an, .bool br, .int .i64 bn, .string name, .int .i64 target] 53)
  have bE := q00 (w2.alloc (.cells #[.int .i64 7, .int .i64 op, .int .i64 xd, .bool ar, .int .i64 an, .bool br, .int .i64 bn, .string name, .int .i64 target] 53)) (.cells #[.int .i64 pc, .int .i64 0, .int .i64 0, .int .i64 (-1), .int .i64 (guess), .bool false, .bool false, .bool false] 55)
  have X4 := Kept.mk (q01 (q01 K4.out bI) bE)
  have X6 := Kept.mk (q01 (q01 K6.out bI) bE)
  have X10 := Kept.mk (q06 (W := w2.alloc (.cells #[.int .i64 7, .int .i64 op, .int .i64 xd, .bool ar, .int .i64 an, .bool br, .int .i64 bn, .string name, .int .i64 target] 53)) (o := (.cells #[.int .i64 pc, .int .i64 0, .int .i64 0, .int .i64 (-1), .int .i64 (guess), .bool false, .bool false, .bool false] 55)) (g := w2.heap.size + 1) (by simp))
  have WB := Kept.mk ((W2.out.trans (bI.mono W2.out.size)).trans (bE.mono (by simp; omega)))
  have RS := Kept.mk (((RS0.out.past W2.out).past bI).past bE)
  have HBL := Kept.mk (((HBR.out.past W2.out).past bI).past bE)
  have HS10 : w2.heap.size + 1 < ((w2.alloc (.cells #[.int .i64 7, .int .i64 op, .int .i64 xd, .bool ar, .int .i64 an, .bool br, .int .i64 bn, .string name, .int .i64 target] 53)).alloc (.cells #[.int .i64 pc, .int .i64 0, .int .i64 0, .int .i64 (-1), .int .i64 (guess), .bool false, .bool false, .bool false] 55)).heap.size := by simp
  have HSW : w.heap.size + 3 ≤ ((w2.alloc (.cells #[.int .i64 7, .int .i64 op, .int .i64 xd, .bool ar, .int .i64 an, .bool br, .int .i64 bn, .string name, .int .i64 target] 53)).alloc (.cells #[.int .i64 pc, .int .i64 0, .int .i64 0, .int .i64 (-1), .int .i64 (guess), .bool false, .bool false, .bool false] 55)).heap.size := by simp; omega
  clear bI bE
  refine q25 ((w2.alloc (.cells #[.int .i64 7, .int .i64 op, .int .i64 xd, .bool ar, .int .i64 an, .bool br, .int .i64 bn, .string name, .int .i64 target] 53)).alloc (.cells #[.int .i64 pc, .int .i64 0, .int .i64 0, .int .i64 (-1), .int .i64 (guess), .bool false, .bool false, .bool false] 55)) (w.heap.size + 1) (w2.heap.size + 1) _ ⟨⟨r0, r1, r2, r3, ⟨mA, mem.length, mC⟩, ⟨sA, stack.length, sC⟩, pc⟩, ⟨bA, l.length, bC⟩, ⟨qA, rsb.length, qC⟩, 0⟩ ⟨pc, 0, 0, -1, guess, false, false, false⟩ l X4 X10 HBL ⟨rfl⟩ HO4 hln rfl (by omega) HS10 (by omega) _ ?_
  rintro _ _ _ _ _ _ _ _ wf s hown hx4 hgr
  have X4f := hx4
  have X10f := (hgr.block (w2.heap.size + 1) HS10 (by intro h; injection h with h; omega)).trans X10.out
  have X6f := (hgr.block (w.heap.size + 1 + 1) (by omega) (by intro h; injection h with h; omega)).trans X6.out
  have R1 := RS.out.row ⟨⟨_, X4.out⟩, hgr⟩ (by decide)
  have hgs : ((w2.alloc (.cells #[.int .i64 7, .int .i64 op, .int .i64 xd, .bool ar, .int .i64 an, .bool br, .int .i64 bn, .string name, .int .i64 target] 53)).alloc (.cells #[.int .i64 pc, .int .i64 0, .int .i64 0, .int .i64 (-1), .int .i64 (guess), .bool false, .bool false, .bool false] 55)).heap.size ≤ wf.heap.size := hgr.size
  have Y4 := fun j => cell_of_row wf (w.heap.size + 1) j _ _ _ X4f
  have F4 := fun j => frozen_of_row wf (w.heap.size + 1) j _ _ X4f
  have Y10 := fun j => cell_of_row wf ((w2.heap.size + 1)) j _ _ _ X10f
  have Y6 := fun j => cell_of_row wf (w.heap.size + 1 + 1) j _ _ _ X6f
  have F6 := fun j => frozen_of_row wf (w.heap.size + 1 + 1) j _ _ X6f
  simp only [Cnf.cs, Cnf.zero, Sl.none] at Y4 Y10 Y6
  have B1 := Kept.mk (Below.keepTo WB.out hgr (show w.heap.size ≤ w.heap.size + 1 by omega) WB.out.size)
  have R2 := Kept.mk (R1.row (q0F (j := 6) X4f (.int .i64 (Ent.next ⟨pc, 0, 0, -1, guess, false, false, false⟩))) (by decide))
  have B2 := Kept.mk (B1.out.setCell (p := ⟨w.heap.size + 1, 6, none⟩) (show w.heap.size ≤ w.heap.size + 1 by omega) (.int .i64 (Ent.next ⟨pc, 0, 0, -1, guess, false, false, false⟩)))
  have X6g := Kept.mk (q03 (p := ⟨w.heap.size + 1, 6, none⟩) (u := .int .i64 (Ent.next ⟨pc, 0, 0, -1, guess, false, false, false⟩)) X6f (by simp))
  have O2 := Kept.mk (OwnE.far hown (p := ⟨w.heap.size + 1, 6, none⟩) (by show w.heap.size + 1 < ((w2.alloc (.cells #[.int .i64 7, .int .i64 op, .int .i64 xd, .bool ar, .int .i64 an, .bool br, .int .i64 bn, .string name, .int .i64 target] 53)).alloc (.cells #[.int .i64 pc, .int .i64 0, .int .i64 0, .int .i64 (-1), .int .i64 (guess), .bool false, .bool false, .bool false] 55)).heap.size; omega) (.int .i64 (Ent.next ⟨pc, 0, 0, -1, guess, false, false, false⟩)))
  clear hown hx4 hgr X4f X10f X6f R1 X4 X6 X10 RS WB HBL
  go_wp2_with fail
  have R3 := R2.out.row ⟨⟨_, X6g.out⟩, grown10 _ (w.heap.size + 1 + 1) ⟨⟨r0, r1, r2, r3, ⟨mA, mem.length, mC⟩, ⟨sA, stack.length, sC⟩, (Ent.next ⟨pc, 0, 0, -1, guess, false, false, false⟩)⟩, s, ⟨qA, rsb.length, qC⟩, 0⟩⟩ (by decide)
  have B3 := below10 (g := w.heap.size + 1 + 1) ⟨⟨r0, r1, r2, r3, ⟨mA, mem.length, mC⟩, ⟨sA, stack.length, sC⟩, (Ent.next ⟨pc, 0, 0, -1, guess, false, false, false⟩)⟩, s, ⟨qA, rsb.length, qC⟩, 0⟩ B2.out (by omega)
  have O3 := own10 (g := w.heap.size + 1 + 1) ⟨⟨r0, r1, r2, r3, ⟨mA, mem.length, mC⟩, ⟨sA, stack.length, sC⟩, (Ent.next ⟨pc, 0, 0, -1, guess, false, false, false⟩)⟩, s, ⟨qA, rsb.length, qC⟩, 0⟩ O2.out (by omega)
  have X3 := q11 Cnf.zero ⟨⟨r0, r1, r2, r3, ⟨mA, mem.length, mC⟩, ⟨sA, stack.length, sC⟩, (Ent.next ⟨pc, 0, 0, -1, guess, false, false, false⟩)⟩, s, ⟨qA, rsb.length, qC⟩, 0⟩ X6g.out
  dsimp only at R3 B3 O3 X3
  refine q0C _ [Cnf.v ⟨⟨r0, r1, r2, r3, ⟨mA, mem.length, mC⟩, ⟨sA, stack.length, sC⟩, (Ent.next ⟨pc, 0, 0, -1, guess, false, false, false⟩)⟩, s, ⟨qA, rsb.length, qC⟩, 0⟩, .bool true] Try.results45 (.cons (.cell (cs := Cnf.cs ⟨⟨r0, r1, r2, r3, ⟨mA, mem.length, mC⟩, ⟨sA, stack.length, sC⟩, (Ent.next ⟨pc, 0, 0, -1, guess, false, false, false⟩)⟩, s, ⟨qA, rsb.length, qC⟩, 0⟩) (b := w.heap.size + 1 + 1) (off := 0) rfl rfl (q05 X3) Try.underlying41 rfl (by kernel_rfl)) (.cons (.tmp rfl) .nil)) rfl ?_
  rw [← HF.out]
  exact ⟨⟨⟨r0, r1, r2, r3, ⟨mA, mem.length, mC⟩, ⟨sA, stack.length, sC⟩, (Ent.next ⟨pc, 0, 0, -1, guess, false, false, false⟩)⟩, s, ⟨qA, rsb.length, qC⟩, 0⟩, rfl, ⟨⟨rfl, rfl, rfl, rfl, R3.xa, R3.xb, rfl⟩, OwnE.is (s := s) O3, R3.xc, rfl⟩, ⟨R3.ta, R3.tb, Tag.of_own O3, R3.tc⟩, B3⟩
 by_cases hk9 : kind = 9
 ·subst hk9
  rcases list_end rsb with rfl | ⟨rt, lst, rfl⟩
  ·simp only [List.length_nil] at RS0 K4 ⊢
   have hF := HFO.out
   rw [if_neg (show ¬ (9 : Int) = 5 by omega), if_neg (show ¬ (9 : Int) = 6 by omega), if_neg (show ¬ (9 : Int) = 7 by omega), if_pos rfl] at hF
   simp only [List.getLast?_nil] at hF
   have HF := Kept.mk hF
   clear hF HFO
   go_upto_region 16 with (fail)
   have bI := q00 w2 (.cells #[.int .i64 9, .int .i64 op, .int .i64 xd, .bool ar, .int .i64 an, .bool br, .int .i64 bn, .string name, .int .i64 target] 53)
   have bE := q00 (w2.alloc (.cells #[.int .i64 9, .int .i64 op, .int .i64 xd, .bool ar, .int .i64 an, .bool br, .int .i64 bn, .string name, .int .i64 target] 53)) (.cells #[.int .i64 pc, .int .i64 0, .int .i64 0, .int .i64 (-1), .int .i64 (guess), .bool false, .bool false, .bool false] 55)
   have x4 := q01 (q01 K4.out bI) bE
   have x6 := q01 (q01 K6.out bI) bE
   have x3 := q01 (q01 K3.out bI) bE
   have x9 := q01 (heap_alloc_new w2 (.cells #[.int .i64 9, .int .i64 op, .int .i64 xd, .bool ar, .int .i64 an, .bool br, .int .i64 bn, .string name, .int .i64 target] 53)) bE
   have x10 := q06 (W := w2.alloc (.cells #[.int .i64 9, .int .i64 op, .int .i64 xd, .bool ar, .int .i64 an, .bool br, .int .i64 bn, .string name, .int .i64 target] 53)) (o := (.cells #[.int .i64 pc, .int .i64 0, .int .i64 0, .int .i64 (-1), .int .i64 (guess), .bool false, .bool false, .bool false] 55)) (g := w2.heap.size + 1) (by simp)
   have wz0 := (W2.out.trans (bI.mono W2.out.size)).trans (bE.mono (by simp; omega))
   have hs10 : w2.heap.size + 1 < ((w2.alloc (.cells #[.int .i64 9, .int .i64 op, .int .i64 xd, .bool ar, .int .i64 an, .bool br, .int .i64 bn, .string name, .int .i64 target] 53)).alloc (.cells #[.int .i64 pc, .int .i64 0, .int .i64 0, .int .i64 (-1), .int .i64 (guess), .bool false, .bool false, .bool false] 55)).heap.size := by simp
   clear bI bE
   generalize (w2.alloc (.cells #[.int .i64 9, .int .i64 op, .int .i64 xd, .bool ar, .int .i64 an, .bool br, .int .i64 bn, .string name, .int .i64 target] 53)).alloc (.cells #[.int .i64 pc, .int .i64 0, .int .i64 0, .int .i64 (-1), .int .i64 (guess), .bool false, .bool false, .bool false] 55) = wz at *
   have WZ := Kept.mk wz0
   have Y9 := fun j => cell_of_row wz w2.heap.size j _ _ _ x9
   have Y3 := fun j => cell_of_row wz w.heap.size j _ _ _ x3
   have Y4 := fun j => cell_of_row wz (w.heap.size + 1) j _ _ _ x4
   simp only [Prg.cs, Cnf.cs] at Y3 Y4
   have KZ4 := Kept.mk x4
   have KZ6 := Kept.mk x6
   have KZ9 := Kept.mk x9
   have KZ10 := Kept.mk x10
   clear x3 x4 x6 x9 x10 wz0 K3 K4 K6
   go_upto_region 27 with (fail)
   clear Y9 Y3 Y4
   have X4 := KZ4
   have X6 := KZ6
   have X10 := KZ10
   have WB := WZ
   have RS := Kept.mk (RS0.out.past WZ.out)
   have HBL := Kept.mk (HBR.out.past WZ.out)
   have HS10 : w2.heap.size + 1 < wz.heap.size := hs10
   have HSW : w.heap.size + 3 ≤ wz.heap.size := by omega
   clear KZ4 KZ6 KZ9 KZ10 WZ
   refine q25 wz (w.heap.size + 1) (w2.heap.size + 1) _ ⟨⟨r0, r1, r2, r3, ⟨mA, mem.length, mC⟩, ⟨sA, stack.length, sC⟩, pc⟩, ⟨bA, l.length, bC⟩, ⟨qA, 0, qC⟩, 0⟩ ⟨pc, 0, 0, -1, guess, false, false, false⟩ l X4 X10 HBL ⟨rfl⟩ HO4 hln rfl (by omega) HS10 (by omega) _ ?_
   rintro _ _ _ _ _ _ _ _ wf s hown hx4 hgr
   have X4f := hx4
   have X10f := (hgr.block (w2.heap.size + 1) HS10 (by intro h; injection h with h; omega)).trans X10.out
   have X6f := (hgr.block (w.heap.size + 1 + 1) (by omega) (by intro h; injection h with h; omega)).trans X6.out
   have R1 := RS.out.row ⟨⟨_, X4.out⟩, hgr⟩ (by decide)
   have hgs : wz.heap.size ≤ wf.heap.size := hgr.size
   have Y4 := fun j => cell_of_row wf (w.heap.size + 1) j _ _ _ X4f
   have F4 := fun j => frozen_of_row wf (w.heap.size + 1) j _ _ X4f
   have Y10 := fun j => cell_of_row wf ((w2.heap.size + 1)) j _ _ _ X10f
   have Y6 := fun j => cell_of_row wf (w.heap.size + 1 + 1) j _ _ _ X6f
   have F6 := fun j => frozen_of_row wf (w.heap.size + 1 + 1) j _ _ X6f
   simp only [Cnf.cs, Cnf.zero, Sl.none] at Y4 Y10 Y6
   have B1 := Kept.mk (Below.keepTo WB.out hgr (show w.heap.size ≤ w.heap.size + 1 by omega) WB.out.size)
   have R2 := Kept.mk (R1.row (q0F (j := 6) X4f (.int .i64 (Ent.next ⟨pc, 0, 0, -1, guess, false, false, false⟩))) (by decide))
   have B2 := Kept.mk (B1.out.setCell (p := ⟨w.heap.size + 1, 6, none⟩) (show w.heap.size ≤ w.heap.size + 1 by omega) (.int .i64 (Ent.next ⟨pc, 0, 0, -1, guess, false, false, false⟩)))
   have X6g := Kept.mk (q03 (p := ⟨w.heap.size + 1, 6, none⟩) (u := .int .i64 (Ent.next ⟨pc, 0, 0, -1, guess, false, false, false⟩)) X6f (by simp))
   have O2 := Kept.mk (OwnE.far hown (p := ⟨w.heap.size + 1, 6, none⟩) (by show w.heap.size + 1 < wz.heap.size; omega) (.int .i64 (Ent.next ⟨pc, 0, 0, -1, guess, false, false, false⟩)))
   clear hown hx4 hgr X4f X10f X6f R1 X4 X6 X10 RS WB HBL
   go_wp2_with fail
   have R3 := R2.out.row ⟨⟨_, X6g.out⟩, grown10 _ (w.heap.size + 1 + 1) ⟨⟨r0, r1, r2, r3, ⟨mA, mem.length, mC⟩, ⟨sA, stack.length, sC⟩, (Ent.next ⟨pc, 0, 0, -1, guess, false, false, false⟩)⟩, s, ⟨qA, 0, qC⟩, 0⟩⟩ (by decide)
   have B3 := below10 (g := w.heap.size + 1 + 1) ⟨⟨r0, r1, r2, r3, ⟨mA, mem.length, mC⟩, ⟨sA, stack.length, sC⟩, (Ent.next ⟨pc, 0, 0, -1, guess, false, false, false⟩)⟩, s, ⟨qA, 0, qC⟩, 0⟩ B2.out (by omega)
   have O3 := own10 (g := w.heap.size + 1 + 1) ⟨⟨r0, r1, r2, r3, ⟨mA, mem.length, mC⟩, ⟨sA, stack.length, sC⟩, (Ent.next ⟨pc, 0, 0, -1, guess, false, false, false⟩)⟩, s, ⟨qA, 0, qC⟩, 0⟩ O2.out (by omega)
   have X3 := q11 Cnf.zero ⟨⟨r0, r1, r2, r3, ⟨mA, mem.length, mC⟩, ⟨sA, stack.length, sC⟩, (Ent.next ⟨pc, 0, 0, -1, guess, false, false, false⟩)⟩, s, ⟨qA, 0, qC⟩, 0⟩ X6g.out
   dsimp only at R3 B3 O3 X3
   refine q0C _ [Cnf.v ⟨⟨r0, r1, r2, r3, ⟨mA, mem.length, mC⟩, ⟨sA, stack.length, sC⟩, (Ent.next ⟨pc, 0, 0, -1, guess, false, false, false⟩)⟩, s, ⟨qA, 0, qC⟩, 0⟩, .bool true] Try.results45 (.cons (.cell (cs := Cnf.cs ⟨⟨r0, r1, r2, r3, ⟨mA, mem.length, mC⟩, ⟨sA, stack.length, sC⟩, (Ent.next ⟨pc, 0, 0, -1, guess, false, false, false⟩)⟩, s, ⟨qA, 0, qC⟩, 0⟩) (b := w.heap.size + 1 + 1) (off := 0) rfl rfl (q05 X3) Try.underlying41 rfl (by kernel_rfl)) (.cons (.tmp rfl) .nil)) rfl ?_
   rw [← HF.out]
   exact ⟨⟨⟨r0, r1, r2, r3, ⟨mA, mem.length, mC⟩, ⟨sA, stack.length, sC⟩, (Ent.next ⟨pc, 0, 0, -1, guess, false, false, false⟩)⟩, s, ⟨qA, 0, qC⟩, 0⟩, rfl, ⟨⟨rfl, rfl, rfl, rfl, R3.xa, R3.xb, rfl⟩, OwnE.is (s := s) O3, R3.xc, rfl⟩, ⟨R3.ta, R3.tb, Tag.of_own O3, R3.tc⟩, B3⟩
  ·have hF := HFO.out
   rw [if_neg (show ¬ (9 : Int) = 5 by omega), if_neg (show ¬ (9 : Int) = 6 by omega), if_neg (show ¬ (9 : Int) = 7 by omega), if_pos rfl] at hF
   simp only [List.getLast?_concat, List.dropLast_concat] at hF
   have HF := Kept.mk hF
   clear hF HFO
   rw [List.length_append, List.length_singleton] at hrl
   simp only [List.length_append, List.length_singleton] at RS0 K4 hqc ⊢
   have hcut := fun w => cut_int_run qA (rt.length + 1) qC rt.length (by omega) hqc w
   go_upto_region 16 with (fail)
   have bI := q00 w2 (.cells #[.int .i64 9, .int .i64 op, .int .i64 xd, .bool ar, .int .i64 an, .bool br, .int .i64 bn, .string name, .int .i64 target] 53)
   have bE := q00 (w2.alloc (.cells #[.int .i64 9, .int .i64 op, .int .i64 xd, .bool ar, .int .i64 an, .bool br, .int .i64 bn, .string name, .int .i64 target] 53)) (.cells #[.int .i64 pc, .int .i64 0, .int .i64 0, .int .i64 (-1), .int .i64 (guess), .bool false, .bool false, .bool false] 55)
   have x4 := q01 (q01 K4.out bI) bE
   have x6 := q01 (q01 K6.out bI) bE
   have x3 := q01 (q01 K3.out bI) bE
   have x9 := q01 (heap_alloc_new w2 (.cells #[.int .i64 9, .int .i64 op, .int .i64 xd, .bool ar, .int .i64 an, .bool br, .int .i64 bn, .string name, .int .i64 target] 53)) bE
   have x10 := q06 (W := w2.alloc (.cells #[.int .i64 9, .int .i64 op, .int .i64 xd, .bool ar, .int .i64 an, .bool br, .int .i64 bn, .string name, .int .i64 target] 53)) (o := (.cells #[.int .i64 pc, .int .i64 0, .int .i64 0, .int .i64 (-1), .int .i64 (guess), .bool false, .bool false, .bool false] 55)) (g := w2.heap.size + 1) (by simp)
   have wz0 := (W2.out.trans (bI.mono W2.out.size)).trans (bE.mono (by simp; omega))
   have hs10 : w2.heap.size + 1 < ((w2.alloc (.cells #[.int .i64 9, .int .i64 op, .int .i64 xd, .bool ar, .int .i64 an, .bool br, .int .i64 bn, .string name, .int .i64 target] 53)).alloc (.cells #[.int .i64 pc, .int .i64 0, .int .i64 0, .int .i64 (-1), .int .i64 (guess), .bool false, .bool false, .bool false] 55)).heap.size := by simp
   clear bI bE
   generalize (w2.alloc (.cells #[.int .i64 9, .int .i64 op, .int .i64 xd, .bool ar, .int .i64 an, .bool br, .int .i64 bn, .string name, .int .i64 target] 53)).alloc (.cells #[.int .i64 pc, .int .i64 0, .int .i64 0, .int .i64 (-1), .int .i64 (guess), .bool false, .bool false, .bool false] 55) = wz at *
   have WZ := Kept.mk wz0
   have Y9 := fun j => cell_of_row wz w2.heap.size j _ _ _ x9
   have Y3 := fun j => cell_of_row wz w.heap.size j _ _ _ x3
   have Y4 := fun j => cell_of_row wz (w.heap.size + 1) j _ _ _ x4
   simp only [Prg.cs, Cnf.cs] at Y3 Y4
   have KZ4 := Kept.mk x4
   have KZ6 := Kept.mk x6
   have KZ9 := Kept.mk x9
   have KZ10 := Kept.mk x10
   clear x3 x4 x6 x9 x10 wz0 K3 K4 K6
   obtain ⟨qb, qo, rfl, hqb, c0⟩ := (HQR.out.past WZ.out).lastEl
   have Y10 := fun j => cell_of_row wz (w2.heap.size + 1) j _ _ _ KZ10.out
   have F10 := fun j => frozen_of_row wz (w2.heap.size + 1) j _ _ KZ10.out
   have hn12 : w2.heap.size + 1 ≠ w.heap.size + 1 := by omega
   go_upto_region 19 with (fail)
   have x4 := q03 (p := ⟨w2.heap.size + 1, 4, none⟩) (u := .int .i64 lst) KZ4.out (by show w2.heap.size + 1 ≠ w.heap.size + 1; omega)
   have x6 := q03 (p := ⟨w2.heap.size + 1, 4, none⟩) (u := .int .i64 lst) KZ6.out (by show w2.heap.size + 1 ≠ w.heap.size + 1 + 1; omega)
   have x10 := heap_setCell_same wz (w2.heap.size + 1) 4 _ _ (.int .i64 lst) KZ10.out
   have wy0 := WZ.out.setCell (p := ⟨w2.heap.size + 1, 4, none⟩) (show w.heap.size ≤ w2.heap.size + 1 by omega) (.int .i64 lst)
   have hsy : w2.heap.size + 1 < (wz.setCell ⟨w2.heap.size + 1, 4, none⟩ (.int .i64 lst)).heap.size := by simpa [World.setCell] using hs10
   clear Y9 Y3 Y4 Y10 F10 KZ4 KZ6 KZ9 KZ10 c0 WZ hs10 hqb
   generalize wz.setCell ⟨w2.heap.size + 1, 4, none⟩ (.int .i64 lst) = wy at *
   have WY := Kept.mk wy0
   have Y4 := fun j => cell_of_row wy (w.heap.size + 1) j _ _ _ x4
   have Y4a := fun j => cell_of_row (wy.alloc (.cells #[] 3)) (w.heap.size + 1) j _ _ _ (q01 x4 (q00 wy _))
   simp only [Cnf.cs] at Y4 Y4a
   have KY4 := Kept.mk x4
   have KY6 := Kept.mk x6
   have KY10 := Kept.mk x10
   have HMD := Kept.mk (OwnI.made (Nat.le_refl wy.heap.size))
   clear x4 x6 x10 wy0
   go_wp2_with (at_builtin; go_must (refine append_nums _ rfl (.tmp 69) (.tmp 74) rfl wy.heap.size rfl HMD.out (m := rt) rfl ((HQR.out.past WY.out).init.past (q00 _ _)) (by simp; omega) (by simp) ?_))
   intro vn wn hn hg0 bn
   have hn : OwnI wn wy.heap.size vn rt := hn
   obtain ⟨An, cn, rfl, hcn, rn⟩ := hn.shape
   have tn := Tag.of_own hn
   have bwn := (q00 wy (.cells #[] 3)).trans (bn.mono (by simp))
   have wp0 := WY.out.trans (bwn.mono WY.out.size)
   have k4 := q01 KY4.out bwn
   have k6 := q01 KY6.out bwn
   have k10 := q01 KY10.out bwn
   have hsp : w2.heap.size + 1 < wn.heap.size := Nat.lt_of_lt_of_le hsy bwn.size
   have RSp : CfRest wn ⟨mA, mem.length, mC⟩ ⟨sA, stack.length, sC⟩ ⟨An, rt.length, cn⟩ mem stack rt := by
    have h := RS0.out.past wp0
    exact ⟨h.xa, h.xb, ⟨rfl, hcn, rn⟩, h.ta, h.tb, tn⟩
   have RS := Kept.mk (RSp.row (q0F (j := 8) k4 (.slice An rt.length cn)) (by decide))
   have X4 := Kept.mk (heap_setCell_same wn (w.heap.size + 1) 8 _ _ (.slice An rt.length cn) k4)
   have X6 := Kept.mk (q03 (p := ⟨w.heap.size + 1, 8, none⟩) (u := .slice An rt.length cn) k6 (by simp))
   have X10 := Kept.mk (q03 (p := ⟨w.heap.size + 1, 8, none⟩) (u := .slice An rt.length cn) k10 (by show w.heap.size + 1 ≠ w2.heap.size + 1; omega))
   have WB := Kept.mk (wp0.setCell (p := ⟨w.heap.size + 1, 8, none⟩) (show w.heap.size ≤ w.heap.size + 1 by omega) (.slice An rt.length cn))
   have HBL := Kept.mk (HBR.out.past WB.out)
   have HS10 : w2.heap.size + 1 < (wn.setCell ⟨w.heap.size + 1, 8, none⟩ (.slice An rt.length cn)).heap.size := by simpa [World.setCell] using hsp
   have HSW : w.heap.size + 3 ≤ (wn.setCell ⟨w.heap.size + 1, 8, none⟩ (.slice An rt.length cn)).heap.size := by omega
   have Y4p := fun j => cell_of_row wn (w.heap.size + 1) j _ _ _ k4
   have F4p := frozen_of_row wn (w.heap.size + 1) 8 _ _ k4
   clear hn hg0 bn hcn rn tn bwn wp0 k4 k6 k10 RSp Y4 Y4a
   simp only [Cnf.cs] at Y4p
   go_upto_region 27 with (fail)
   refine q25 (wn.setCell ⟨w.heap.size + 1, 8, none⟩ (.slice An rt.length cn)) (w.heap.size + 1) (w2.heap.size + 1) _ ⟨⟨r0, r1, r2, r3, ⟨mA, mem.length, mC⟩, ⟨sA, stack.length, sC⟩, pc⟩, ⟨bA, l.length, bC⟩, ⟨An, rt.length, cn⟩, 0⟩ ⟨pc, 0, 0, -1, lst, false, false, false⟩ l X4 X10 HBL ⟨rfl⟩ HO4 hln rfl (by omega) HS10 (by omega) _ ?_
   rintro _ _ _ _ _ _ _ _ wf s hown hx4 hgr
   have X4f := hx4
   have X10f := (hgr.block (w2.heap.size + 1) HS10 (by intro h; injection h with h; omega)).trans X10.out
   have X6f := (hgr.block (w.heap.size + 1 + 1) (by omega) (by intro h; injection h with h; omega)).trans X6.out
   have R1 := RS.out.row ⟨⟨_, X4.out⟩, hgr⟩ (by decide)
   have hgs : (wn.setCell ⟨w.heap.size + 1, 8, none⟩ (.slice An rt.length cn)).heap.size ≤ wf.heap.size := hgr.size
   have Y4 := fun j => cell_of_row wf (w.heap.size + 1) j _ _ _ X4f
   have F4 := fun j => frozen_of_row wf (w.heap.size + 1) j _ _ X4f
   have Y10 := fun j => cell_of_row wf ((w2.heap.size + 1)) j _ _ _ X10f
   have Y6 := fun j => cell_of_row wf (w.heap.size + 1 + 1) j _ _ _ X6f
   have F6 := fun j => frozen_of_row wf (w.heap.size + 1 + 1) j _ _ X6f
   simp only [Cnf.cs, Cnf.zero, Sl.none] at Y4 Y10 Y6
   have B1 := Kept.mk (Below.keepTo WB.out hgr (show w.heap.size ≤ w.heap.size + 1 by omega) WB.out.size)
   have R2 := Kept.mk (R1.row (q0F (j := 6) X4f (.int .i64 (Ent.next ⟨pc, 0, 0, -1, lst, false, false, false⟩))) (by decide))
   have B2 := Kept.mk (B1.out.setCell (p := ⟨w.heap.size + 1, 6, none⟩) (show w.heap.size ≤ w.heap.size + 1 by omega) (.int .i64 (Ent.next ⟨pc, 0, 0, -1, lst, false, false, false⟩)))
   have X6g := Kept.mk (q03 (p := ⟨w.heap.size + 1, 6, none⟩) (u := .int .i64 (Ent.next ⟨pc, 0, 0, -1, lst, false, false, false⟩)) X6f (by simp))
   have O2 := Kept.mk (OwnE.far hown (p := ⟨w.heap.size + 1, 6, none⟩) (by show w.heap.size + 1 < (wn.setCell ⟨w.heap.size + 1, 8, none⟩ (.slice An rt.length cn)).heap.size; omega) (.int .i64 (Ent.next ⟨pc, 0, 0, -1, lst, false, false, false⟩)))
   clear hown hx4 hgr X4f X10f X6f R1 X4 X6 X10 RS WB HBL
   go_wp2_with fail
   have R3 := R2.out.row ⟨⟨_, X6g.out⟩, grown10 _ (w.heap.size + 1 + 1) ⟨⟨r0, r1, r2, r3, ⟨mA, mem.length, mC⟩, ⟨sA, stack.length, sC⟩, (Ent.next ⟨pc, 0, 0, -1, lst, false, false, false⟩)⟩, s, ⟨An, rt.length, cn⟩, 0⟩⟩ (by decide)
   have B3 := below10 (g := w.heap.size + 1 + 1) ⟨⟨r0, r1, r2, r3, ⟨mA, mem.length, mC⟩, ⟨sA, stack.length, sC⟩, (Ent.next ⟨pc, 0, 0, -1, lst, false, false, false⟩)⟩, s, ⟨An, rt.length, cn⟩, 0⟩ B2.out (by omega)
   have O3 := own10 (g := w.heap.size + 1 + 1) ⟨⟨r0, r1, r2, r3, ⟨mA, mem.length, mC⟩, ⟨sA, stack.length, sC⟩, (Ent.next ⟨pc, 0, 0, -1, lst, false, false, false⟩)⟩, s, ⟨An, rt.length, cn⟩, 0⟩ O2.out (by omega)
   have X3 := q11 Cnf.zero ⟨⟨r0, r1, r2, r3, ⟨mA, mem.length, mC⟩, ⟨sA, stack.length, sC⟩, (Ent.next ⟨pc, 0, 0, -1, lst, false, false, false⟩)⟩, s, ⟨An, rt.length, cn⟩, 0⟩ X6g.out
   dsimp only at R3 B3 O3 X3
   refine q0C _ [Cnf.v ⟨⟨r0, r1, r2, r3, ⟨mA, mem.length, mC⟩, ⟨sA, stack.length, sC⟩, (Ent.next ⟨pc, 0, 0, -1, lst, false, false, false⟩)⟩, s, ⟨An, rt.length, cn⟩, 0⟩, .bool true] Try.results45 (.cons (.cell (cs := Cnf.cs ⟨⟨r0, r1, r2, r3, ⟨mA, mem.length, mC⟩, ⟨sA, stack.length, sC⟩, (Ent.next ⟨pc, 0, 0, -1, lst, false, false, false⟩)⟩, s, ⟨An, rt.length, cn⟩, 0⟩) (b := w.heap.size + 1 + 1) (off := 0) rfl rfl (q05 X3) Try.underlying41 rfl (by kernel_rfl)) (.cons (.tmp rfl) .nil)) rfl ?_
   rw [← HF.out]
   exact ⟨⟨⟨r0, r1, r2, r3, ⟨mA, mem.length, mC⟩, ⟨sA, stack.length, sC⟩, (Ent.next ⟨pc, 0, 0, -1, lst, false, false, false⟩)⟩, s, ⟨An, rt.length, cn⟩, 0⟩, rfl, ⟨⟨rfl, rfl, rfl, rfl, R3.xa, R3.xb, rfl⟩, OwnE.is (s := s) O3, R3.xc, rfl⟩, ⟨R3.ta, R3.tb, Tag.of_own O3, R3.tc⟩, B3⟩
 by_cases hk8 : kind = 8
 ·subst hk8
  have hF := HFO.out
  rw [if_neg (show ¬ (8 : Int) = 5 by omega), if_neg (show ¬ (8 : Int) = 6 by omega), if_neg (show ¬ (8 : Int) = 7 by omega), if_neg (show ¬ (8 : Int) = 9 by omega), if_pos rfl] at hF
  clear HFO
  go_upto_region 21 with (fail)
  have bI := q00 w2 (.cells #[.int .i64 8, .int .i64 op, .int .i64 xd, .bool ar, .int .i64 an, .bool br, .int .i64 bn, .string name, .int .i64 target] 53)
  have bE := q00 (w2.alloc (.cells #[.int .i64 8, .int .i64 op, .int .i64 xd, .bool ar, .int .i64 an, .bool br, .int .i64 bn, .string name, .int .i64 target] 53)) (.cells #[.int .i64 pc, .int .i64 0, .int .i64 0, .int .i64 (-1), .int .i64 (pc + 1), .bool false, .bool false, .bool false] 55)
  have x4 := q01 (q01 K4.out bI) bE
  have x6 := q01 (q01 K6.out bI) bE
  have x3 := q01 (q01 K3.out bI) bE
  have x9 := q01 (heap_alloc_new w2 (.cells #[.int .i64 8, .int .i64 op, .int .i64 xd, .bool ar, .int .i64 an, .bool br, .int .i64 bn, .string name, .int .i64 target] 53)) bE
  have x10 := q06 (W := w2.alloc (.cells #[.int .i64 8, .int .i64 op, .int .i64 xd, .bool ar, .int .i64 an, .bool br, .int .i64 bn, .string name, .int .i64 target] 53)) (o := (.cells #[.int .i64 pc, .int .i64 0, .int .i64 0, .int .i64 (-1), .int .i64 (pc + 1), .bool false, .bool false, .bool false] 55)) (g := w2.heap.size + 1) (by simp)
  have wz0 := (W2.out.trans (bI.mono W2.out.size)).trans (bE.mono (by simp; omega))
  have hs10 : w2.heap.size + 1 < ((w2.alloc (.cells #[.int .i64 8, .int .i64 op, .int .i64 xd, .bool ar, .int .i64 an, .bool br, .int .i64 bn, .string name, .int .i64 target] 53)).alloc (.cells #[.int .i64 pc, .int .i64 0, .int .i64 0, .int .i64 (-1), .int .i64 (pc + 1), .bool false, .bool false, .bool false] 55)).heap.size := by simp
  clear bI bE
  generalize (w2.alloc (.cells #[.int .i64 8, .int .i64 op, .int .i64 xd, .bool ar, .int .i64 an, .bool br, .int .i64 bn, .string name, .int .i64 target] 53)).alloc (.cells #[.int .i64 pc, .int .i64 0, .int .i64 0, .int .i64 (-1), .int .i64 (pc + 1), .bool false, .bool false, .bool false] 55) = wz at *
  have WZ := Kept.mk wz0
  have Y9 := fun j => cell_of_row wz w2.heap.size j _ _ _ x9
  have Y3 := fun j => cell_of_row wz w.heap.size j _ _ _ x3
  have Y4 := fun j => cell_of_row wz (w.heap.size + 1) j _ _ _ x4
  simp only [Prg.cs, Cnf.cs] at Y3 Y4
  have KZ4 := Kept.mk x4
  have KZ6 := Kept.mk x6
  have KZ9 := Kept.mk x9
  have KZ10 := Kept.mk x10
  clear x3 x4 x6 x9 x10 wz0 K3 K4 K6
  go_wp2_with fail
  have HRl := Kept.mk (fun w1 h1 h2 h3 => real_ref p il sA sC stack bA bC l (l.length : Int) w1 h1 h2 hsl h3 (by omega))
  rw [Int.toNat_natCast, List.take_length] at HRl
  refine (HRl.out _ (HP.out.past WZ.out) (HSR.out.past WZ.out) (HBR.out.past WZ.out)).mono ?_
  rintro en wr ⟨⟨v, rfl, hv, br⟩⟩
  have WR := Kept.mk (WZ.out.trans (br.mono WZ.out.size))
  have x4 := q01 KZ4.out br
  have x6 := q01 KZ6.out br
  have x9 := q01 KZ9.out br
  have x10 := q01 KZ10.out br
  have hs10r : w2.heap.size + 1 < wr.heap.size := Nat.lt_of_lt_of_le hs10 br.size
  clear Y9 Y3 Y4 KZ4 KZ6 KZ9 KZ10 br HRl
  have Y9 := fun j => cell_of_row wr w2.heap.size j _ _ _ x9
  have Y4 := fun j => cell_of_row wr (w.heap.size + 1) j _ _ _ x4
  have Y10 := fun j => cell_of_row wr (w2.heap.size + 1) j _ _ _ x10
  have F10 := fun j => frozen_of_row wr (w2.heap.size + 1) j _ _ x10
  simp only [Cnf.cs] at Y4
  have KR4 := Kept.mk x4
  have KR6 := Kept.mk x6
  have KR10 := Kept.mk x10
  have hn12 : w2.heap.size + 1 ≠ w.heap.size + 1 := by omega
  clear x4 x6 x9 x10
  generalize realOf il stack l = RR at hv hF ⊢
  cases RR with
  | none =>
   have hv : v = .slice none 0 0 := hv
   subst hv
   simp only at hF
   have HF := Kept.mk hF
   clear hF
   go_wp2_with fail
   have x10 := heap_setCell_same _ (w2.heap.size + 1) 7 _ _ (.bool true) (heap_setCell_same _ (w2.heap.size + 1) 5 _ _ (.bool true) (heap_setCell_same wr (w2.heap.size + 1) 4 _ _ (.int .i64 target) KR10.out))
   have x4 := q03 (p := ⟨w2.heap.size + 1, 7, none⟩) (u := .bool true) (q03 (p := ⟨w2.heap.size + 1, 5, none⟩) (u := .bool true) (q03 (p := ⟨w2.heap.size + 1, 4, none⟩) (u := .int .i64 target) KR4.out (by show w2.heap.size + 1 ≠ w.heap.size + 1; omega)) (by show w2.heap.size + 1 ≠ w.heap.size + 1; omega)) (by show w2.heap.size + 1 ≠ w.heap.size + 1; omega)
   have x6 := q03 (p := ⟨w2.heap.size + 1, 7, none⟩) (u := .bool true) (q03 (p := ⟨w2.heap.size + 1, 5, none⟩) (u := .bool true) (q03 (p := ⟨w2.heap.size + 1, 4, none⟩) (u := .int .i64 target) KR6.out (by show w2.heap.size + 1 ≠ w.heap.size + 1 + 1; omega)) (by show w2.heap.size + 1 ≠ w.heap.size + 1 + 1; omega)) (by show w2.heap.size + 1 ≠ w.heap.size + 1 + 1; omega)
   have ws0 := ((WR.out.setCell (p := ⟨w2.heap.size + 1, 4, none⟩) (show w.heap.size ≤ w2.heap.size + 1 by omega) (.int .i64 target)).setCell (p := ⟨w2.heap.size + 1, 5, none⟩) (show w.heap.size ≤ w2.heap.size + 1 by omega) (.bool true)).setCell (p := ⟨w2.heap.size + 1, 7, none⟩) (show w.heap.size ≤ w2.heap.size + 1 by omega) (.bool true)
   have hss : w2.heap.size + 1 < (((wr.setCell ⟨w2.heap.size + 1, 4, none⟩ (.int .i64 target)).setCell ⟨w2.heap.size + 1, 5, none⟩ (.bool true)).setCell ⟨w2.heap.size + 1, 7, none⟩ (.bool true)).heap.size := by simpa [World.setCell] using hs10r
   refine (push_ref qA qC rsb (pc + 1) _ (HQR.out.past ws0) (by omega)).mono ?_
   rintro en wp ⟨A', c', rfl, hc', hrd, htg, bp⟩
   have wp0 := ws0.trans (bp.mono ws0.size)
   have k4 := q01 x4 bp
   have k6 := q01 x6 bp
   have k10 := q01 x10 bp
   have hsp : w2.heap.size + 1 < wp.heap.size := Nat.lt_of_lt_of_le hss bp.size
   have RSp : CfRest wp ⟨mA, mem.length, mC⟩ ⟨sA, stack.length, sC⟩ ⟨A', (lastTwo (rsb ++ [pc + 1])).length, c'⟩ mem stack (lastTwo (rsb ++ [pc + 1])) := by
    have h := RS0.out.past wp0
    exact ⟨h.xa, h.xb, ⟨rfl, hc', hrd⟩, h.ta, h.tb, htg⟩
   have RS := Kept.mk (RSp.row (q0F (j := 8) k4 (.slice A' (lastTwo (rsb ++ [pc + 1])).length c')) (by decide))
   have X4 := Kept.mk (heap_setCell_same wp (w.heap.size + 1) 8 _ _ (.slice A' (lastTwo (rsb ++ [pc + 1])).length c') k4)
   have X6 := Kept.mk (q03 (p := ⟨w.heap.size + 1, 8, none⟩) (u := .slice A' (lastTwo (rsb ++ [pc + 1])).length c') k6 (by simp))
   have X10 := Kept.mk (q03 (p := ⟨w.heap.size + 1, 8, none⟩) (u := .slice A' (lastTwo (rsb ++ [pc + 1])).length c') k10 (by show w.heap.size + 1 ≠ w2.heap.size + 1; omega))
   have WB := Kept.mk (wp0.setCell (p := ⟨w.heap.size + 1, 8, none⟩) (show w.heap.size ≤ w.heap.size + 1 by omega) (.slice A' (lastTwo (rsb ++ [pc + 1])).length c'))
   have HBL := Kept.mk (HBR.out.past WB.out)
   have HS10 : w2.heap.size + 1 < (wp.setCell ⟨w.heap.size + 1, 8, none⟩ (.slice A' (lastTwo (rsb ++ [pc + 1])).length c')).heap.size := by simpa [World.setCell] using hsp
   have HSW : w.heap.size + 3 ≤ (wp.setCell ⟨w.heap.size + 1, 8, none⟩ (.slice A' (lastTwo (rsb ++ [pc + 1])).length c')).heap.size := by omega
   have Y4p := fun j => cell_of_row wp (w.heap.size + 1) j _ _ _ k4
   have F4p := frozen_of_row wp (w.heap.size + 1) 8 _ _ k4
   clear x10 x4 x6 ws0 hss hc' hrd htg bp wp0 k4 k6 k10 RSp Y9 Y4 Y10 F10
   simp only [Cnf.cs] at Y4p
   go_upto_region 27 with (fail)
   refine q25 (wp.setCell ⟨w.heap.size + 1, 8, none⟩ (.slice A' (lastTwo (rsb ++ [pc + 1])).length c')) (w.heap.size + 1) (w2.heap.size + 1) _ ⟨⟨r0, r1, r2, r3, ⟨mA, mem.length, mC⟩, ⟨sA, stack.length, sC⟩, pc⟩, ⟨bA, l.length, bC⟩, ⟨A', (lastTwo (rsb ++ [pc + 1])).length, c'⟩, 0⟩ ⟨pc, 0, 0, -1, target, true, false, true⟩ l X4 X10 HBL ⟨rfl⟩ HO4 hln rfl (by omega) HS10 (by omega) _ ?_
   rintro _ _ _ _ _ _ _ _ wf s hown hx4 hgr
   have X4f := hx4
   have X10f := (hgr.block (w2.heap.size + 1) HS10 (by intro h; injection h with h; omega)).trans X10.out
   have X6f := (hgr.block (w.heap.size + 1 + 1) (by omega) (by intro h; injection h with h; omega)).trans X6.out
   have R1 := RS.out.row ⟨⟨_, X4.out⟩, hgr⟩ (by decide)
   have hgs : (wp.setCell ⟨w.heap.size + 1, 8, none⟩ (.slice A' (lastTwo (rsb ++ [pc + 1])).length c')).heap.size ≤ wf.heap.size := hgr.size
   have Y4 := fun j => cell_of_row wf (w.heap.size + 1) j _ _ _ X4f
   have F4 := fun j => frozen_of_row wf (w.heap.size + 1) j _ _ X4f
   have Y10 := fun j => cell_of_row wf ((w2.heap.size + 1)) j _ _ _ X10f
   have Y6 := fun j => cell_of_row wf (w.heap.size + 1 + 1) j _ _ _ X6f
   have F6 := fun j => frozen_of_row wf (w.heap.size + 1 + 1) j _ _ X6f
   simp only [Cnf.cs, Cnf.zero, Sl.none] at Y4 Y10 Y6
   have B1 := Kept.mk (Below.keepTo WB.out hgr (show w.heap.size ≤ w.heap.size + 1 by omega) WB.out.size)
   have R2 := Kept.mk (R1.row (q0F (j := 6) X4f (.int .i64 (Ent.next ⟨pc, 0, 0, -1, target, true, false, true⟩))) (by decide))
   have B2 := Kept.mk (B1.out.setCell (p := ⟨w.heap.size + 1, 6, none⟩) (show w.heap.size ≤ w.heap.size + 1 by omega) (.int .i64 (Ent.next ⟨pc, 0, 0, -1, target, true, false, true⟩)))
   have X6g := Kept.mk (q03 (p := ⟨w.heap.size + 1, 6, none⟩) (u := .int .i64 (Ent.next ⟨pc, 0, 0, -1, target, true, false, true⟩)) X6f (by simp))
   have O2 := Kept.mk (OwnE.far hown (p := ⟨w.heap.size + 1, 6, none⟩) (by show w.heap.size + 1 < (wp.setCell ⟨w.heap.size + 1, 8, none⟩ (.slice A' (lastTwo (rsb ++ [pc + 1])).length c')).heap.size; omega) (.int .i64 (Ent.next ⟨pc, 0, 0, -1, target, true, false, true⟩)))
   clear hown hx4 hgr X4f X10f X6f R1 X4 X6 X10 RS WB HBL
   go_wp2_with fail
   have R3 := R2.out.row ⟨⟨_, X6g.out⟩, grown10 _ (w.heap.size + 1 + 1) ⟨⟨r0, r1, r2, r3, ⟨mA, mem.length, mC⟩, ⟨sA, stack.length, sC⟩, (Ent.next ⟨pc, 0, 0, -1, target, true, false, true⟩)⟩, s, ⟨A', (lastTwo (rsb ++ [pc + 1])).length, c'⟩, 0⟩⟩ (by decide)
   have B3 := below10 (g := w.heap.size + 1 + 1) ⟨⟨r0, r1, r2, r3, ⟨mA, mem.length, mC⟩, ⟨sA, stack.length, sC⟩, (Ent.next ⟨pc, 0, 0, -1, target, true, false, true⟩)⟩, s, ⟨A', (lastTwo (rsb ++ [pc + 1])).length, c'⟩, 0⟩ B2.out (by omega)
   have O3 := own10 (g := w.heap.size + 1 + 1) ⟨⟨r0, r1, r2, r3, ⟨mA, mem.length, mC⟩, ⟨sA, stack.length, sC⟩, (Ent.next ⟨pc, 0, 0, -1, target, true, false, true⟩)⟩, s, ⟨A', (lastTwo (rsb ++ [pc + 1])).length, c'⟩, 0⟩ O2.out (by omega)
   have X3 := q11 Cnf.zero ⟨⟨r0, r1, r2, r3, ⟨mA, mem.length, mC⟩, ⟨sA, stack.length, sC⟩, (Ent.next ⟨pc, 0, 0, -1, target, true, false, true⟩)⟩, s, ⟨A', (lastTwo (rsb ++ [pc + 1])).length, c'⟩, 0⟩ X6g.out
   dsimp only at R3 B3 O3 X3
   refine q0C _ [Cnf.v ⟨⟨r0, r1, r2, r3, ⟨mA, mem.length, mC⟩, ⟨sA, stack.length, sC⟩, (Ent.next ⟨pc, 0, 0, -1, target, true, false, true⟩)⟩, s, ⟨A', (lastTwo (rsb ++ [pc + 1])).length, c'⟩, 0⟩, .bool true] Try.results45 (.cons (.cell (cs := Cnf.cs ⟨⟨r0, r1, r2, r3, ⟨mA, mem.length, mC⟩, ⟨sA, stack.length, sC⟩, (Ent.next ⟨pc, 0, 0, -1, target, true, false, true⟩)⟩, s, ⟨A', (lastTwo (rsb ++ [pc + 1])).length, c'⟩, 0⟩) (b := w.heap.size + 1 + 1) (off := 0) rfl rfl (q05 X3) Try.underlying41 rfl (by kernel_rfl)) (.cons (.tmp rfl) .nil)) rfl ?_
   rw [← HF.out]
   exact ⟨⟨⟨r0, r1, r2, r3, ⟨mA, mem.length, mC⟩, ⟨sA, stack.length, sC⟩, (Ent.next ⟨pc, 0, 0, -1, target, true, false, true⟩)⟩, s, ⟨A', (lastTwo (rsb ++ [pc + 1])).length, c'⟩, 0⟩, rfl, ⟨⟨rfl, rfl, rfl, rfl, R3.xa, R3.xb, rfl⟩, OwnE.is (s := s) O3, R3.xc, rfl⟩, ⟨R3.ta, R3.tb, Tag.of_own O3, R3.tc⟩, B3⟩
  | some s =>
   have hv : OwnI wr _ v s := hv
   obtain ⟨A3, c3, rfl, -, -⟩ := hv.shape
   clear hv
   simp only at hF
   by_cases h4 : 4 ≤ s.length
   ·rw [decide_eq_true h4] at hF
    have HF := Kept.mk hF
    clear hF
    go_wp2_with fail
    rw [show decide ((4 : Int) ≤ (s.length : Int)) = true from decide_eq_true (by omega)]
    have x10 := heap_setCell_same _ (w2.heap.size + 1) 7 _ _ (.bool true) (heap_setCell_same _ (w2.heap.size + 1) 5 _ _ (.bool true) (heap_setCell_same wr (w2.heap.size + 1) 4 _ _ (.int .i64 target) KR10.out))
    have x4 := q03 (p := ⟨w2.heap.size + 1, 7, none⟩) (u := .bool true) (q03 (p := ⟨w2.heap.size + 1, 5, none⟩) (u := .bool true) (q03 (p := ⟨w2.heap.size + 1, 4, none⟩) (u := .int .i64 target) KR4.out (by show w2.heap.size + 1 ≠ w.heap.size + 1; omega)) (by show w2.heap.size + 1 ≠ w.heap.size + 1; omega)) (by show w2.heap.size + 1 ≠ w.heap.size + 1; omega)
    have x6 := q03 (p := ⟨w2.heap.size + 1, 7, none⟩) (u := .bool true) (q03 (p := ⟨w2.heap.size + 1, 5, none⟩) (u := .bool true) (q03 (p := ⟨w2.heap.size + 1, 4, none⟩) (u := .int .i64 target) KR6.out (by show w2.heap.size + 1 ≠ w.heap.size + 1 + 1; omega)) (by show w2.heap.size + 1 ≠ w.heap.size + 1 + 1; omega)) (by show w2.heap.size + 1 ≠ w.heap.size + 1 + 1; omega)
    have ws0 := ((WR.out.setCell (p := ⟨w2.heap.size + 1, 4, none⟩) (show w.heap.size ≤ w2.heap.size + 1 by omega) (.int .i64 target)).setCell (p := ⟨w2.heap.size + 1, 5, none⟩) (show w.heap.size ≤ w2.heap.size + 1 by omega) (.bool true)).setCell (p := ⟨w2.heap.size + 1, 7, none⟩) (show w.heap.size ≤ w2.heap.size + 1 by omega) (.bool true)
    have hss : w2.heap.size + 1 < (((wr.setCell ⟨w2.heap.size + 1, 4, none⟩ (.int .i64 target)).setCell ⟨w2.heap.size + 1, 5, none⟩ (.bool true)).setCell ⟨w2.heap.size + 1, 7, none⟩ (.bool true)).heap.size := by simpa [World.setCell] using hs10r
    refine (push_ref qA qC rsb (pc + 1) _ (HQR.out.past ws0) (by omega)).mono ?_
    rintro en wp ⟨A', c', rfl, hc', hrd, htg, bp⟩
    have wp0 := ws0.trans (bp.mono ws0.size)
    have k4 := q01 x4 bp
    have k6 := q01 x6 bp
    have k10 := q01 x10 bp
    have hsp : w2.heap.size + 1 < wp.heap.size := Nat.lt_of_lt_of_le hss bp.size
    have RSp : CfRest wp ⟨mA, mem.length, mC⟩ ⟨sA, stack.length, sC⟩ ⟨A', (lastTwo (rsb ++ [pc + 1])).length, c'⟩ mem stack (lastTwo (rsb ++ [pc + 1])) := by
     have h := RS0.out.past wp0
     exact ⟨h.xa, h.xb, ⟨rfl, hc', hrd⟩, h.ta, h.tb, htg⟩
    have RS := Kept.mk (RSp.row (q0F (j := 8) k4 (.slice A' (lastTwo (rsb ++ [pc + 1])).length c')) (by decide))
    have X4 := Kept.mk (heap_setCell_same wp (w.heap.size + 1) 8 _ _ (.slice A' (lastTwo (rsb ++ [pc + 1])).length c') k4)
    have X6 := Kept.mk (q03 (p := ⟨w.heap.size + 1, 8, none⟩) (u := .slice A' (lastTwo (rsb ++ [pc + 1])).length c') k6 (by simp))
    have X10 := Kept.mk (q03 (p := ⟨w.heap.size + 1, 8, none⟩) (u := .slice A' (lastTwo (rsb ++ [pc + 1])).length c') k10 (by show w.heap.size + 1 ≠ w2.heap.size + 1; omega))
    have WB := Kept.mk (wp0.setCell (p := ⟨w.heap.size + 1, 8, none⟩) (show w.heap.size ≤ w.heap.size + 1 by omega) (.slice A' (lastTwo (rsb ++ [pc + 1])).length c'))
    have HBL := Kept.mk (HBR.out.past WB.out)
    have HS10 : w2.heap.size + 1 < (wp.setCell ⟨w.heap.size + 1, 8, none⟩ (.slice A' (lastTwo (rsb ++ [pc + 1])).length c')).heap.size := by simpa [World.setCell] using hsp
    have HSW : w.heap.size + 3 ≤ (wp.setCell ⟨w.heap.size + 1, 8, none⟩ (.slice A' (lastTwo (rsb ++ [pc + 1])).length c')).heap.size := by omega
    have Y4p := fun j => cell_of_row wp (w.heap.size + 1) j _ _ _ k4
    have F4p := frozen_of_row wp (w.heap.size + 1) 8 _ _ k4
    clear x10 x4 x6 ws0 hss hc' hrd htg bp wp0 k4 k6 k10 RSp Y9 Y4 Y10 F10
    simp only [Cnf.cs] at Y4p
    go_upto_region 27 with (fail)
    refine q25 (wp.setCell ⟨w.heap.size + 1, 8, none⟩ (.slice A' (lastTwo (rsb ++ [pc + 1])).length c')) (w.heap.size + 1) (w2.heap.size + 1) _ ⟨⟨r0, r1, r2, r3, ⟨mA, mem.length, mC⟩, ⟨sA, stack.length, sC⟩, pc⟩, ⟨bA, l.length, bC⟩, ⟨A', (lastTwo (rsb ++ [pc + 1])).length, c'⟩, 0⟩ ⟨pc, 0, 0, -1, target, true, false, true⟩ l X4 X10 HBL ⟨rfl⟩ HO4 hln rfl (by omega) HS10 (by omega) _ ?_
    rintro _ _ _ _ _ _ _ _ wf s hown hx4 hgr
    have X4f := hx4
    have X10f := (hgr.block (w2.heap.size + 1) HS10 (by intro h; injection h with h; omega)).trans X10.out
    have X6f := (hgr.block (w.heap.size + 1 + 1) (by omega) (by intro h; injection h with h; omega)).trans X6.out
    have R1 := RS.out.row ⟨⟨_, X4.out⟩, hgr⟩ (by decide)
    have hgs : (wp.setCell ⟨w.heap.size + 1, 8, none⟩ (.slice A' (lastTwo (rsb ++ [pc + 1])).length c')).heap.size ≤ wf.heap.size := hgr.size
    have Y4 := fun j => cell_of_row wf (w.heap.size + 1) j _ _ _ X4f
    have F4 := fun j => frozen_of_row wf (w.heap.size + 1) j _ _ X4f
    have Y10 := fun j => cell_of_row wf ((w2.heap.size + 1)) j _ _ _ X10f
    have Y6 := fun j => cell_of_row wf (w.heap.size + 1 + 1) j _ _ _ X6f
    have F6 := fun j => frozen_of_row wf (w.heap.size + 1 + 1) j _ _ X6f
    simp only [Cnf.cs, Cnf.zero, Sl.none] at Y4 Y10 Y6
    have B1 := Kept.mk (Below.keepTo WB.out hgr (show w.heap.size ≤ w.heap.size + 1 by omega) WB.out.size)
    have R2 := Kept.mk (R1.row (q0F (j := 6) X4f (.int .i64 (Ent.next ⟨pc, 0, 0, -1, target, true, false, true⟩))) (by decide))
    have B2 := Kept.mk (B1.out.setCell (p := ⟨w.heap.size + 1, 6, none⟩) (show w.heap.size ≤ w.heap.size + 1 by omega) (.int .i64 (Ent.next ⟨pc, 0, 0, -1, target, true, false, true⟩)))
    have X6g := Kept.mk (q03 (p := ⟨w.heap.size + 1, 6, none⟩) (u := .int .i64 (Ent.next ⟨pc, 0, 0, -1, target, true, false, true⟩)) X6f (by simp))
    have O2 := Kept.mk (OwnE.far hown (p := ⟨w.heap.size + 1, 6, none⟩) (by show w.heap.size + 1 < (wp.setCell ⟨w.heap.size + 1, 8, none⟩ (.slice A' (lastTwo (rsb ++ [pc + 1])).length c')).heap.size; omega) (.int .i64 (Ent.next ⟨pc, 0, 0, -1, target, true, false, true⟩)))
    clear hown hx4 hgr X4f X10f X6f R1 X4 X6 X10 RS WB HBL
    go_wp2_with fail
    have R3 := R2.out.row ⟨⟨_, X6g.out⟩, grown10 _ (w.heap.size + 1 + 1) ⟨⟨r0, r1, r2, r3, ⟨mA, mem.length, mC⟩, ⟨sA, stack.length, sC⟩, (Ent.next ⟨pc, 0, 0, -1, target, true, false, true⟩)⟩, s, ⟨A', (lastTwo (rsb ++ [pc + 1])).length, c'⟩, 0⟩⟩ (by decide)
    have B3 := below10 (g := w.heap.size + 1 + 1) ⟨⟨r0, r1, r2, r3, ⟨mA, mem.length, mC⟩, ⟨sA, stack.length, sC⟩, (Ent.next ⟨pc, 0, 0, -1, target, true, false, true⟩)⟩, s, ⟨A', (lastTwo (rsb ++ [pc + 1])).length, c'⟩, 0⟩ B2.out (by omega)
    have O3 := own10 (g := w.heap.size + 1 + 1) ⟨⟨r0, r1, r2, r3, ⟨mA, mem.length, mC⟩, ⟨sA, stack.length, sC⟩, (Ent.next ⟨pc, 0, 0, -1, target, true, false, true⟩)⟩, s, ⟨A', (lastTwo (rsb ++ [pc + 1])).length, c'⟩, 0⟩ O2.out (by omega)
    have X3 := q11 Cnf.zero ⟨⟨r0, r1, r2, r3, ⟨mA, mem.length, mC⟩, ⟨sA, stack.length, sC⟩, (Ent.next ⟨pc, 0, 0, -1, target, true, false, true⟩)⟩, s, ⟨A', (lastTwo (rsb ++ [pc + 1])).length, c'⟩, 0⟩ X6g.out
    dsimp only at R3 B3 O3 X3
    refine q0C _ [Cnf.v ⟨⟨r0, r1, r2, r3, ⟨mA, mem.length, mC⟩, ⟨sA, stack.length, sC⟩, (Ent.next ⟨pc, 0, 0, -1, target, true, false, true⟩)⟩, s, ⟨A', (lastTwo (rsb ++ [pc + 1])).length, c'⟩, 0⟩, .bool true] Try.results45 (.cons (.cell (cs := Cnf.cs ⟨⟨r0, r1, r2, r3, ⟨mA, mem.length, mC⟩, ⟨sA, stack.length, sC⟩, (Ent.next ⟨pc, 0, 0, -1, target, true, false, true⟩)⟩, s, ⟨A', (lastTwo (rsb ++ [pc + 1])).length, c'⟩, 0⟩) (b := w.heap.size + 1 + 1) (off := 0) rfl rfl (q05 X3) Try.underlying41 rfl (by kernel_rfl)) (.cons (.tmp rfl) .nil)) rfl ?_
    rw [← HF.out]
    exact ⟨⟨⟨r0, r1, r2, r3, ⟨mA, mem.length, mC⟩, ⟨sA, stack.length, sC⟩, (Ent.next ⟨pc, 0, 0, -1, target, true, false, true⟩)⟩, s, ⟨A', (lastTwo (rsb ++ [pc + 1])).length, c'⟩, 0⟩, rfl, ⟨⟨rfl, rfl, rfl, rfl, R3.xa, R3.xb, rfl⟩, OwnE.is (s := s) O3, R3.xc, rfl⟩, ⟨R3.ta, R3.tb, Tag.of_own O3, R3.tc⟩, B3⟩
   ·rw [decide_eq_false h4] at hF
    have HF := Kept.mk hF
    clear hF
    go_wp2_with fail
    rw [show decide ((4 : Int) ≤ (s.length : Int)) = false from decide_eq_false (by omega)]
    have x10 := heap_setCell_same _ (w2.heap.size + 1) 7 _ _ (.bool false) (heap_setCell_same _ (w2.heap.size + 1) 5 _ _ (.bool true) (heap_setCell_same wr (w2.heap.size + 1) 4 _ _ (.int .i64 target) KR10.out))
    have x4 := q03 (p := ⟨w2.heap.size + 1, 7, none⟩) (u := .bool false) (q03 (p := ⟨w2.heap.size + 1, 5, none⟩) (u := .bool true) (q03 (p := ⟨w2.heap.size + 1, 4, none⟩) (u := .int .i64 target) KR4.out (by show w2.heap.size + 1 ≠ w.heap.size + 1; omega)) (by show w2.heap.size + 1 ≠ w.heap.size + 1; omega)) (by show w2.heap.size + 1 ≠ w.heap.size + 1; omega)
    have x6 := q03 (p := ⟨w2.heap.size + 1, 7, none⟩) (u := .bool false) (q03 (p := ⟨w2.heap.size + 1, 5, none⟩) (u := .bool true) (q03 (p := ⟨w2.heap.size + 1, 4, none⟩) (u := .int .i64 target) KR6.out (by show w2.heap.size + 1 ≠ w.heap.size + 1 + 1; omega)) (by show w2.heap.size + 1 ≠ w.heap.size + 1 + 1; omega)) (by show w2.heap.size + 1 ≠ w.heap.size + 1 + 1; omega)
    have ws0 := ((WR.out.setCell (p := ⟨w2.heap.size + 1, 4, none⟩) (show w.heap.size ≤ w2.heap.size + 1 by omega) (.int .i64 target)).setCell (p := ⟨w2.heap.size + 1, 5, none⟩) (show w.heap.size ≤ w2.heap.size + 1 by omega) (.bool true)).setCell (p := ⟨w2.heap.size + 1, 7, none⟩) (show w.heap.size ≤ w2.heap.size + 1 by omega) (.bool false)
    have hss : w2.heap.size + 1 < (((wr.setCell ⟨w2.heap.size + 1, 4, none⟩ (.int .i64 target)).setCell ⟨w2.heap.size + 1, 5, none⟩ (.bool true)).setCell ⟨w2.heap.size + 1, 7, none⟩ (.bool false)).heap.size := by simpa [World.setCell] using hs10r
    refine (push_ref qA qC rsb (pc + 1) _ (HQR.out.past ws0) (by omega)).mono ?_
    rintro en wp ⟨A', c', rfl, hc', hrd, htg, bp⟩
    have wp0 := ws0.trans (bp.mono ws0.size)
    have k4 := q01 x4 bp
    have k6 := q01 x6 bp
    have k10 := q01 x10 bp
    have hsp : w2.heap.size + 1 < wp.heap.size := Nat.lt_of_lt_of_le hss bp.size
    have RSp : CfRest wp ⟨mA, mem.length, mC⟩ ⟨sA, stack.length, sC⟩ ⟨A', (lastTwo (rsb ++ [pc + 1])).length, c'⟩ mem stack (lastTwo (rsb ++ [pc + 1])) := by
     have h := RS0.out.past wp0
     exact ⟨h.xa, h.xb, ⟨rfl, hc', hrd⟩, h.ta, h.tb, htg⟩
    have RS := Kept.mk (RSp.row (q0F (j := 8) k4 (.slice A' (lastTwo (rsb ++ [pc + 1])).length c')) (by decide))
    have X4 := Kept.mk (heap_setCell_same wp (w.heap.size + 1) 8 _ _ (.slice A' (lastTwo (rsb ++ [pc + 1])).length c') k4)
    have X6 := Kept.mk (q03 (p := ⟨w.heap.size + 1, 8, none⟩) (u := .slice A' (lastTwo (rsb ++ [pc + 1])).length c') k6 (by simp))
    have X10 := Kept.mk (q03 (p := ⟨w.heap.size + 1, 8, none⟩) (u := .slice A' (lastTwo (rsb ++ [pc + 1])).length c') k10 (by show w.heap.size + 1 ≠ w2.heap.size + 1; omega))
    have WB := Kept.mk (wp0.setCell (p := ⟨w.heap.size + 1, 8, none⟩) (show w.heap.size ≤ w.heap.size + 1 by omega) (.slice A' (lastTwo (rsb ++ [pc + 1])).length c'))
    have HBL := Kept.mk (HBR.out.past WB.out)
    have HS10 : w2.heap.size + 1 < (wp.setCell ⟨w.heap.size + 1, 8, none⟩ (.slice A' (lastTwo (rsb ++ [pc + 1])).length c')).heap.size := by simpa [World.setCell] using hsp
    have HSW : w.heap.size + 3 ≤ (wp.setCell ⟨w.heap.size + 1, 8, none⟩ (.slice A' (lastTwo (rsb ++ [pc + 1])).length c')).heap.size := by omega
    have Y4p := fun j => cell_of_row wp (w.heap.size + 1) j _ _ _ k4
    have F4p := frozen_of_row wp (w.heap.size + 1) 8 _ _ k4
    clear x10 x4 x6 ws0 hss hc' hrd htg bp wp0 k4 k6 k10 RSp Y9 Y4 Y10 F10
    simp only [Cnf.cs] at Y4p
    go_upto_region 27 with (fail)
    refine q25 (wp.setCell ⟨w.heap.size + 1, 8, none⟩ (.slice A' (lastTwo (rsb ++ [pc + 1])).length c')) (w.heap.size + 1) (w2.heap.size + 1) _ ⟨⟨r0, r1, r2, r3, ⟨mA, mem.length, mC⟩, ⟨sA, stack.length, sC⟩, pc⟩, ⟨bA, l.length, bC⟩, ⟨A', (lastTwo (rsb ++ [pc + 1])).length, c'⟩, 0⟩ ⟨pc, 0, 0, -1, target, true, false, false⟩ l X4 X10 HBL ⟨rfl⟩ HO4 hln rfl (by omega) HS10 (by omega) _ ?_
    rintro _ _ _ _ _ _ _ _ wf s hown hx4 hgr
    have X4f := hx4
    have X10f := (hgr.block (w2.heap.size + 1) HS10 (by intro h; injection h with h; omega)).trans X10.out
    have X6f := (hgr.block (w.heap.size + 1 + 1) (by omega) (by intro h; injection h with h; omega)).trans X6.out
    have R1 := RS.out.row ⟨⟨_, X4.out⟩, hgr⟩ (by decide)
    have hgs : (wp.setCell ⟨w.heap.size + 1, 8, none⟩ (.slice A' (lastTwo (rsb ++ [pc + 1])).length c')).heap.size ≤ wf.heap.size := hgr.size
    have Y4 := fun j => cell_of_row wf (w.heap.size + 1) j _ _ _ X4f
    have F4 := fun j => frozen_of_row wf (w.heap.size + 1) j _ _ X4f
    have Y10 := fun j => cell_of_row wf ((w2.heap.size + 1)) j _ _ _ X10f
    have Y6 := fun j => cell_of_row wf (w.heap.size + 1 + 1) j _ _ _ X6f
    have F6 := fun j => frozen_of_row wf (w.heap.size + 1 + 1) j _ _ X6f
    simp only [Cnf.cs, Cnf.zero, Sl.none] at Y4 Y10 Y6
    have B1 := Kept.mk (Below.keepTo WB.out hgr (show w.heap.size ≤ w.heap.size + 1 by omega) WB.out.size)
    have R2 := Kept.mk (R1.row (q0F (j := 6) X4f (.int .i64 (Ent.next ⟨pc, 0, 0, -1, target, true, false, false⟩))) (by decide))
    have B2 := Kept.mk (B1.out.setCell (p := ⟨w.heap.size + 1, 6, none⟩) (show w.heap.size ≤ w.heap.size + 1 by omega) (.int .i64 (Ent.next ⟨pc, 0, 0, -1, target, true, false, false⟩)))
    have X6g := Kept.mk (q03 (p := ⟨w.heap.size + 1, 6, none⟩) (u := .int .i64 (Ent.next ⟨pc, 0, 0, -1, target, true, false, false⟩)) X6f (by simp))
    have O2 := Kept.mk (OwnE.far hown (p := ⟨w.heap.size + 1, 6, none⟩) (by show w.heap.size + 1 < (wp.setCell ⟨w.heap.size + 1, 8, none⟩ (.slice A' (lastTwo (rsb ++ [pc + 1])).length c')).heap.size; omega) (.int .i64 (Ent.next ⟨pc, 0, 0, -1, target, true, false, false⟩)))
    clear hown hx4 hgr X4f X10f X6f R1 X4 X6 X10 RS WB HBL
    go_wp2_with fail
    have R3 := R2.out.row ⟨⟨_, X6g.out⟩, grown10 _ (w.heap.size + 1 + 1) ⟨⟨r0, r1, r2, r3, ⟨mA, mem.length, mC⟩, ⟨sA, stack.length, sC⟩, (Ent.next ⟨pc, 0, 0, -1, target, true, false, false⟩)⟩, s, ⟨A', (lastTwo (rsb ++ [pc + 1])).length, c'⟩, 0⟩⟩ (by decide)
    have B3 := below10 (g := w.heap.size + 1 + 1) ⟨⟨r0, r1, r2, r3, ⟨mA, mem.length, mC⟩, ⟨sA, stack.length, sC⟩, (Ent.next ⟨pc, 0, 0, -1, target, true, false, false⟩)⟩, s, ⟨A', (lastTwo (rsb ++ [pc + 1])).length, c'⟩, 0⟩ B2.out (by omega)
    have O3 := own10 (g := w.heap.size + 1 + 1) ⟨⟨r0, r1, r2, r3, ⟨mA, mem.length, mC⟩, ⟨sA, stack.length, sC⟩, (Ent.next ⟨pc, 0, 0, -1, target, true, false, false⟩)⟩, s, ⟨A', (lastTwo (rsb ++ [pc + 1])).length, c'⟩, 0⟩ O2.out (by omega)
    have X3 := q11 Cnf.zero ⟨⟨r0, r1, r2, r3, ⟨mA, mem.length, mC⟩, ⟨sA, stack.length, sC⟩, (Ent.next ⟨pc, 0, 0, -1, target, true, false, false⟩)⟩, s, ⟨A', (lastTwo (rsb ++ [pc + 1])).length, c'⟩, 0⟩ X6g.out
    dsimp only at R3 B3 O3 X3
    refine q0C _ [Cnf.v ⟨⟨r0, r1, r2, r3, ⟨mA, mem.length, mC⟩, ⟨sA, stack.length, sC⟩, (Ent.next ⟨pc, 0, 0, -1, target, true, false, false⟩)⟩, s, ⟨A', (lastTwo (rsb ++ [pc + 1])).length, c'⟩, 0⟩, .bool true] Try.results45 (.cons (.cell (cs := Cnf.cs ⟨⟨r0, r1, r2, r3, ⟨mA, mem.length, mC⟩, ⟨sA, stack.length, sC⟩, (Ent.next ⟨pc, 0, 0, -1, target, true, false, false⟩)⟩, s, ⟨A', (lastTwo (rsb ++ [pc + 1])).length, c'⟩, 0⟩) (b := w.heap.size + 1 + 1) (off := 0) rfl rfl (q05 X3) Try.underlying41 rfl (by kernel_rfl)) (.cons (.tmp rfl) .nil)) rfl ?_
    rw [← HF.out]
    exact ⟨⟨⟨r0, r1, r2, r3, ⟨mA, mem.length, mC⟩, ⟨sA, stack.length, sC⟩, (Ent.next ⟨pc, 0, 0, -1, target, true, false, false⟩)⟩, s, ⟨A', (lastTwo (rsb ++ [pc + 1])).length, c'⟩, 0⟩, rfl, ⟨⟨rfl, rfl, rfl, rfl, R3.xa, R3.xb, rfl⟩, OwnE.is (s := s) O3, R3.xc, rfl⟩, ⟨R3.ta, R3.tb, Tag.of_own O3, R3.tc⟩, B3⟩
 by_cases hk11 : kind = 11
 ·subst hk11
  have hF := HFO.out
  rw [if_neg (show ¬ (11 : Int) = 5 by omega), if_neg (show ¬ (11 : Int) = 6 by omega), if_neg (show ¬ (11 : Int) = 7 by omega), if_neg (show ¬ (11 : Int) = 9 by omega), if_neg (show ¬ (11 : Int) = 8 by omega), if_pos (.inl rfl)] at hF
  have HF := Kept.mk hF
  clear hF HFO
  go_upto_region 27 with (fail)
  have bI := q00 w2 (.cells #[.int .i64 11, .int .i64 op, .int .i64 xd, .bool ar, .int .i64 an, .bool br, .int .i64 bn, .string name, .int .i64 target] 53)
  have bE := q00 (w2.alloc (.cells #[.int .i64 11, .int .i64 op, .int .i64 xd, .bool ar, .int .i64 an, .bool br, .int .i64 bn, .string name, .int .i64 target] 53)) (.cells #[.int .i64 pc, .int .i64 0, .int .i64 0, .int .i64 (-1), .int .i64 (-1), .bool true, .bool false, .bool false] 55)
  have X4 := Kept.mk (q01 (q01 K4.out bI) bE)
  have X6 := Kept.mk (q01 (q01 K6.out bI) bE)
  have X10 := Kept.mk (q06 (W := w2.alloc (.cells #[.int .i64 11, .int .i64 op, .int .i64 xd, .bool ar, .int .i64 an, .bool br, .int .i64 bn, .string name, .int .i64 target] 53)) (o := (.cells #[.int .i64 pc, .int .i64 0, .int .i64 0, .int .i64 (-1), .int .i64 (-1), .bool true, .bool false, .bool false] 55)) (g := w2.heap.size + 1) (by simp))
  have WB := Kept.mk ((W2.out.trans (bI.mono W2.out.size)).trans (bE.mono (by simp; omega)))
  have RS := Kept.mk (((RS0.out.past W2.out).past bI).past bE)
  have HBL := Kept.mk (((HBR.out.past W2.out).past bI).past bE)
  have HS10 : w2.heap.size + 1 < ((w2.alloc (.cells #[.int .i64 11, .int .i64 op, .int .i64 xd, .bool ar, .int .i64 an, .bool br, .int .i64 bn, .string name, .int .i64 target] 53)).alloc (.cells #[.int .i64 pc, .int .i64 0, .int .i64 0, .int .i64 (-1), .int .i64 (-1), .bool true, .bool false, .bool false] 55)).heap.size := by simp
  have HSW : w.heap.size + 3 ≤ ((w2.alloc (.cells #[.int .i64 11, .int .i64 op, .int .i64 xd, .bool ar, .int .i64 an, .bool br, .int .i64 bn, .string name, .int .i64 target] 53)).alloc (.cells #[.int .i64 pc, .int .i64 0, .int .i64 0, .int .i64 (-1), .int .i64 (-1), .bool true, .bool false, .bool false] 55)).heap.size := by simp; omega
  clear bI bE
  refine q25 ((w2.alloc (.cells #[.int .i64 11, .int .i64 op, .int .i64 xd, .bool ar, .int .i64 an, .bool br, .int .i64 bn, .string name, .int .i64 target] 53)).alloc (.cells #[.int .i64 pc, .int .i64 0, .int .i64 0, .int .i64 (-1), .int .i64 (-1), .bool true, .bool false, .bool false] 55)) (w.heap.size + 1) (w2.heap.size + 1) _ ⟨⟨r0, r1, r2, r3, ⟨mA, mem.length, mC⟩, ⟨sA, stack.length, sC⟩, pc⟩, ⟨bA, l.length, bC⟩, ⟨qA, rsb.length, qC⟩, 0⟩ ⟨pc, 0, 0, -1, -1, true, false, false⟩ l X4 X10 HBL ⟨rfl⟩ HO4 hln rfl (by omega) HS10 (by omega) _ ?_
  rintro _ _ _ _ _ _ _ _ wf s hown hx4 hgr
  have X4f := hx4
  have X10f := (hgr.block (w2.heap.size + 1) HS10 (by intro h; injection h with h; omega)).trans X10.out
  have X6f := (hgr.block (w.heap.size + 1 + 1) (by omega) (by intro h; injection h with h; omega)).trans X6.out
  have R1 := RS.out.row ⟨⟨_, X4.out⟩, hgr⟩ (by decide)
  have hgs : ((w2.alloc (.cells #[.int .i64 11, .int .i64 op, .int .i64 xd, .bool ar, .int .i64 an, .bool br, .int .i64 bn, .string name, .int .i64 target] 53)).alloc (.cells #[.int .i64 pc, .int .i64 0, .int .i64 0, .int .i64 (-1), .int .i64 (-1), .bool true, .bool false, .bool false] 55)).heap.size ≤ wf.heap.size := hgr.size
  have Y4 := fun j => cell_of_row wf (w.heap.size + 1) j _ _ _ X4f
  have F4 := fun j => frozen_of_row wf (w.heap.size + 1) j _ _ X4f
  have Y10 := fun j => cell_of_row wf ((w2.heap.size + 1)) j _ _ _ X10f
  have Y6 := fun j => cell_of_row wf (w.heap.size + 1 + 1) j _ _ _ X6f
  have F6 := fun j => frozen_of_row wf (w.heap.size + 1 + 1) j _ _ X6f
  simp only [Cnf.cs, Cnf.zero, Sl.none] at Y4 Y10 Y6
  have B1 := Kept.mk (Below.keepTo WB.out hgr (show w.heap.size ≤ w.heap.size + 1 by omega) WB.out.size)
  have R2 := Kept.mk (R1.row (q0F (j := 6) X4f (.int .i64 (Ent.next ⟨pc, 0, 0, -1, -1, true, false, false⟩))) (by decide))
  have B2 := Kept.mk (B1.out.setCell (p := ⟨w.heap.size + 1, 6, none⟩) (show w.heap.size ≤ w.heap.size + 1 by omega) (.int .i64 (Ent.next ⟨pc, 0, 0, -1, -1, true, false, false⟩)))
  have X6g := Kept.mk (q03 (p := ⟨w.heap.size + 1, 6, none⟩) (u := .int .i64 (Ent.next ⟨pc, 0, 0, -1, -1, true, false, false⟩)) X6f (by simp))
  have O2 := Kept.mk (OwnE.far hown (p := ⟨w.heap.size + 1, 6, none⟩) (by show w.heap.size + 1 < ((w2.alloc (.cells #[.int .i64 11, .int .i64 op, .int .i64 xd, .bool ar, .int .i64 an, .bool br, .int .i64 bn, .string name, .int .i64 target] 53)).alloc (.cells #[.int .i64 pc, .int .i64 0, .int .i64 0, .int .i64 (-1), .int .i64 (-1), .bool true, .bool false, .bool false] 55)).heap.size; omega) (.int .i64 (Ent.next ⟨pc, 0, 0, -1, -1, true, false, false⟩)))
  clear hown hx4 hgr X4f X10f X6f R1 X4 X6 X10 RS WB HBL
  go_wp2_with fail
  have R3 := R2.out.row ⟨⟨_, X6g.out⟩, grown10 _ (w.heap.size + 1 + 1) ⟨⟨r0, r1, r2, r3, ⟨mA, mem.length, mC⟩, ⟨sA, stack.length, sC⟩, (Ent.next ⟨pc, 0, 0, -1, -1, true, false, false⟩)⟩, s, ⟨qA, rsb.length, qC⟩, 0⟩⟩ (by decide)
  have B3 := below10 (g := w.heap.size + 1 + 1) ⟨⟨r0, r1, r2, r3, ⟨mA, mem.length, mC⟩, ⟨sA, stack.length, sC⟩, (Ent.next ⟨pc, 0, 0, -1, -1, true, false, false⟩)⟩, s, ⟨qA, rsb.length, qC⟩, 0⟩ B2.out (by omega)
  have O3 := own10 (g := w.heap.size + 1 + 1) ⟨⟨r0, r1, r2, r3, ⟨mA, mem.length, mC⟩, ⟨sA, stack.length, sC⟩, (Ent.next ⟨pc, 0, 0, -1, -1, true, false, false⟩)⟩, s, ⟨qA, rsb.length, qC⟩, 0⟩ O2.out (by omega)
  have X3 := q11 Cnf.zero ⟨⟨r0, r1, r2, r3, ⟨mA, mem.length, mC⟩, ⟨sA, stack.length, sC⟩, (Ent.next ⟨pc, 0, 0, -1, -1, true, false, false⟩)⟩, s, ⟨qA, rsb.length, qC⟩, 0⟩ X6g.out
  dsimp only at R3 B3 O3 X3
  refine q0C _ [Cnf.v ⟨⟨r0, r1, r2, r3, ⟨mA, mem.length, mC⟩, ⟨sA, stack.length, sC⟩, (Ent.next ⟨pc, 0, 0, -1, -1, true, false, false⟩)⟩, s, ⟨qA, rsb.length, qC⟩, 0⟩, .bool true] Try.results45 (.cons (.cell (cs := Cnf.cs ⟨⟨r0, r1, r2, r3, ⟨mA, mem.length, mC⟩, ⟨sA, stack.length, sC⟩, (Ent.next ⟨pc, 0, 0, -1, -1, true, false, false⟩)⟩, s, ⟨qA, rsb.length, qC⟩, 0⟩) (b := w.heap.size + 1 + 1) (off := 0) rfl rfl (q05 X3) Try.underlying41 rfl (by kernel_rfl)) (.cons (.tmp rfl) .nil)) rfl ?_
  rw [← HF.out]
  exact ⟨⟨⟨r0, r1, r2, r3, ⟨mA, mem.length, mC⟩, ⟨sA, stack.length, sC⟩, (Ent.next ⟨pc, 0, 0, -1, -1, true, false, false⟩)⟩, s, ⟨qA, rsb.length, qC⟩, 0⟩, rfl, ⟨⟨rfl, rfl, rfl, rfl, R3.xa, R3.xb, rfl⟩, OwnE.is (s := s) O3, R3.xc, rfl⟩, ⟨R3.ta, R3.tb, Tag.of_own O3, R3.tc⟩, B3⟩
 by_cases hk12 : kind = 12
 ·subst hk12
  have hF := HFO.out
  rw [if_neg (show ¬ (12 : Int) = 5 by omega), if_neg (show ¬ (12 : Int) = 6 by omega), if_neg (show ¬ (12 : Int) = 7 by omega), if_neg (show ¬ (12 : Int) = 9 by omega), if_neg (show ¬ (12 : Int) = 8 by omega), if_pos (.inr rfl)] at hF
  have HF := Kept.mk hF
  clear hF HFO
  go_upto_region 27 with (fail)
  have bI := q00 w2 (.cells #[.int .i64 12, .int .i64 op, .int .i64 xd, .bool ar, .int .i64 an, .bool br, .int .i64 bn, .string name, .int .i64 target] 53)
  have bE := q00 (w2.alloc (.cells #[.int .i64 12, .int .i64 op, .int .i64 xd, .bool ar, .int .i64 an, .bool br, .int .i64 bn, .string name, .int .i64 target] 53)) (.cells #[.int .i64 pc, .int .i64 0, .int .i64 0, .int .i64 (-1), .int .i64 (-1), .bool true, .bool false, .bool false] 55)
  have X4 := Kept.mk (q01 (q01 K4.out bI) bE)
  have X6 := Kept.mk (q01 (q01 K6.out bI) bE)
  have X10 := Kept.mk (q06 (W := w2.alloc (.cells #[.int .i64 12, .int .i64 op, .int .i64 xd, .bool ar, .int .i64 an, .bool br, .int .i64 bn, .string name, .int .i64 target] 53)) (o := (.cells #[.int .i64 pc, .int .i64 0, .int .i64 0, .int .i64 (-1), .int .i64 (-1), .bool true, .bool false, .bool false] 55)) (g := w2.heap.size + 1) (by simp))
  have WB := Kept.mk ((W2.out.trans (bI.mono W2.out.size)).trans (bE.mono (by simp; omega)))
  have RS := Kept.mk (((RS0.out.past W2.out).past bI).past bE)
  have HBL := Kept.mk (((HBR.out.past W2.out).past bI).past bE)
  have HS10 : w2.heap.size + 1 < ((w2.alloc (.cells #[.int .i64 12, .int .i64 op, .int .i64 xd, .bool ar, .int .i64 an, .bool br, .int .i64 bn, .string name, .int .i64 target] 53)).alloc (.cells #[.int .i64 pc, .int .i64 0, .int .i64 0, .int .i64 (-1), .int .i64 (-1), .bool true, .bool false, .bool false] 55)).heap.size := by simp
  have HSW : w.heap.size + 3 ≤ ((w2.alloc (.cells #[.int .i64 12, .int .i64 op, .int .i64 xd, .bool ar, .int .i64 an, .bool br, .int .i64 bn, .string name, .int .i64 target] 53)).alloc (.cells #[.int .i64 pc, .int .i64 0, .int .i64 0, .int .i64 (-1), .int .i64 (-1), .bool true, .bool false, .bool false] 55)).heap.size := by simp; omega
  clear bI bE
  refine q25 ((w2.alloc (.cells #[.int .i64 12, .int .i64 op, .int .i64 xd, .bool ar, .int .i64 an, .bool br, .int .i64 bn, .string name, .int .i64 target] 53)).alloc (.cells #[.int .i64 pc, .int .i64 0, .int .i64 0, .int .i64 (-1), .int .i64 (-1), .bool true, .bool false, .bool false] 55)) (w.heap.size + 1) (w2.heap.size + 1) _ ⟨⟨r0, r1, r2, r3, ⟨mA, mem.length, mC⟩, ⟨sA, stack.length, sC⟩, pc⟩, ⟨bA, l.length, bC⟩, ⟨qA, rsb.length, qC⟩, 0⟩ ⟨pc, 0, 0, -1, -1, true, false, false⟩ l X4 X10 HBL ⟨rfl⟩ HO4 hln rfl (by omega) HS10 (by omega) _ ?_
  rintro _ _ _ _ _ _ _ _ wf s hown hx4 hgr
  have X4f := hx4
  have X10f := (hgr.block (w2.heap.size + 1) HS10 (by intro h; injection h with h; omega)).trans X10.out
  have X6f := (hgr.block (w.heap.size + 1 + 1) (by omega) (by intro h; injection h with h; omega)).trans X6.out
  have R1 := RS.out.row ⟨⟨_, X4.out⟩, hgr⟩ (by decide)
  have hgs : ((w2.alloc (.cells #[.int .i64 12, .int .i64 op, .int .i64 xd, .bool ar, .int .i64 an, .bool br, .int .i64 bn, .string name, .int .i64 target] 53)).alloc (.cells #[.int .i64 pc, .int .i64 0, .int .i64 0, .int .i64 (-1), .int .i64 (-1), .bool true, .bool false, .bool false] 55)).heap.size ≤ wf.heap.size := hgr.size
  have Y4 := fun j => cell_of_row wf (w.heap.size + 1) j _ _ _ X4f
  have F4 := fun j => frozen_of_row wf (w.heap.size + 1) j _ _ X4f
  have Y10 := fun j => cell_of_row wf ((w2.heap.size + 1)) j _ _ _ X10f
  have Y6 := fun j => cell_of_row wf (w.heap.size + 1 + 1) j _ _ _ X6f
  have F6 := fun j => frozen_of_row wf (w.heap.size + 1 + 1) j _ _ X6f
  simp only [Cnf.cs, Cnf.zero, Sl.none] at Y4 Y10 Y6
  have B1 := Kept.mk (Below.keepTo WB.out hgr (show w.heap.size ≤ w.heap.size + 1 by omega) WB.out.size)
  have R2 := Kept.mk (R1.row (q0F (j := 6) X4f (.int .i64 (Ent.next ⟨pc, 0, 0, -1, -1, true, false, false⟩))) (by decide))
  have B2 := Kept.mk (B1.out.setCell (p := ⟨w.heap.size + 1, 6, none⟩) (show w.heap.size ≤ w.heap.size + 1 by omega) (.int .i64 (Ent.next ⟨pc, 0, 0, -1, -1, true, false, false⟩)))
  have X6g := Kept.mk (q03 (p := ⟨w.heap.size + 1, 6, none⟩) (u := .int .i64 (Ent.next ⟨pc, 0, 0, -1, -1, true, false, false⟩)) X6f (by simp))
  have O2 := Kept.mk (OwnE.far hown (p := ⟨w.heap.size + 1, 6, none⟩) (by show w.heap.size + 1 < ((w2.alloc (.cells #[.int .i64 12, .int .i64 op, .int .i64 xd, .bool ar, .int .i64 an, .bool br, .int .i64 bn, .string name, .int .i64 target] 53)).alloc (.cells #[.int .i64 pc, .int .i64 0, .int .i64 0, .int .i64 (-1), .int .i64 (-1), .bool true, .bool false, .bool false] 55)).heap.size; omega) (.int .i64 (Ent.next ⟨pc, 0, 0, -1, -1, true, false, false⟩)))
  clear hown hx4 hgr X4f X10f X6f R1 X4 X6 X10 RS WB HBL
  go_wp2_with fail
  have R3 := R2.out.row ⟨⟨_, X6g.out⟩, grown10 _ (w.heap.size + 1 + 1) ⟨⟨r0, r1, r2, r3, ⟨mA, mem.length, mC⟩, ⟨sA, stack.length, sC⟩, (Ent.next ⟨pc, 0, 0, -1, -1, true, false, false⟩)⟩, s, ⟨qA, rsb.length, qC⟩, 0⟩⟩ (by decide)
  have B3 := below10 (g := w.heap.size + 1 + 1) ⟨⟨r0, r1, r2, r3, ⟨mA, mem.length, mC⟩, ⟨sA, stack.length, sC⟩, (Ent.next ⟨pc, 0, 0, -1, -1, true, false, false⟩)⟩, s, ⟨qA, rsb.length, qC⟩, 0⟩ B2.out (by omega)
  have O3 := own10 (g := w.heap.size + 1 + 1) ⟨⟨r0, r1, r2, r3, ⟨mA, mem.length, mC⟩, ⟨sA, stack.length, sC⟩, (Ent.next ⟨pc, 0, 0, -1, -1, true, false, false⟩)⟩, s, ⟨qA, rsb.length, qC⟩, 0⟩ O2.out (by omega)
  have X3 := q11 Cnf.zero ⟨⟨r0, r1, r2, r3, ⟨mA, mem.length, mC⟩, ⟨sA, stack.length, sC⟩, (Ent.next ⟨pc, 0, 0, -1, -1, true, false, false⟩)⟩, s, ⟨qA, rsb.length, qC⟩, 0⟩ X6g.out
  dsimp only at R3 B3 O3 X3
  refine q0C _ [Cnf.v ⟨⟨r0, r1, r2, r3, ⟨mA, mem.length, mC⟩, ⟨sA, stack.length, sC⟩, (Ent.next ⟨pc, 0, 0, -1, -1, true, false, false⟩)⟩, s, ⟨qA, rsb.length, qC⟩, 0⟩, .bool true] Try.results45 (.cons (.cell (cs := Cnf.cs ⟨⟨r0, r1, r2, r3, ⟨mA, mem.length, mC⟩, ⟨sA, stack.length, sC⟩, (Ent.next ⟨pc, 0, 0, -1, -1, true, false, false⟩)⟩, s, ⟨qA, rsb.length, qC⟩, 0⟩) (b := w.heap.size + 1 + 1) (off := 0) rfl rfl (q05 X3) Try.underlying41 rfl (by kernel_rfl)) (.cons (.tmp rfl) .nil)) rfl ?_
  rw [← HF.out]
  exact ⟨⟨⟨r0, r1, r2, r3, ⟨mA, mem.length, mC⟩, ⟨sA, stack.length, sC⟩, (Ent.next ⟨pc, 0, 0, -1, -1, true, false, false⟩)⟩, s, ⟨qA, rsb.length, qC⟩, 0⟩, rfl, ⟨⟨rfl, rfl, rfl, rfl, R3.xa, R3.xb, rfl⟩, OwnE.is (s := s) O3, R3.xc, rfl⟩, ⟨R3.ta, R3.tb, Tag.of_own O3, R3.tc⟩, B3⟩
 have hF := HFO.out
 rw [if_neg hk5, if_neg hk6, if_neg hk7, if_neg hk9, if_neg hk8, if_neg (show ¬ (kind = 11 ∨ kind = 12) by omega)] at hF
 have HF := Kept.mk hF
 clear hF HFO
 have k5 : (kind == 5) = false := by simp [hk5]
 have k6 : (kind == 6) = false := by simp [hk6]
 have k7 : (kind == 7) = false := by simp [hk7]
 have k9 : (kind == 9) = false := by simp [hk9]
 have k8 : (kind == 8) = false := by simp [hk8]
 have k11 : (kind == 11) = false := by simp [hk11]
 have k12 : (kind == 12) = false := by simp [hk12]
 clear hk5 hk6 hk7 hk9 hk8 hk11 hk12
 go_upto_region 27 with (fail)
 have bI := q00 w2 (.cells #[.int .i64 kind, .int .i64 op, .int .i64 xd, .bool ar, .int .i64 an, .bool br, .int .i64 bn, .string name, .int .i64 target] 53)
 have bE := q00 (w2.alloc (.cells #[.int .i64 kind, .int .i64 op, .int .i64 xd, .bool ar, .int .i64 an, .bool br, .int .i64 bn, .string name, .int .i64 target] 53)) (.cells #[.int .i64 pc, .int .i64 0, .int .i64 0, .int .i64 (-1), .int .i64 (pc + 1), .bool false, .bool false, .bool false] 55)
 have X4 := Kept.mk (q01 (q01 K4.out bI) bE)
 have X6 := Kept.mk (q01 (q01 K6.out bI) bE)
 have X10 := Kept.mk (q06 (W := w2.alloc (.cells #[.int .i64 kind, .int .i64 op, .int .i64 xd, .bool ar, .int .i64 an, .bool br, .int .i64 bn, .string name, .int .i64 target] 53)) (o := (.cells #[.int .i64 pc, .int .i64 0, .int .i64 0, .int .i64 (-1), .int .i64 (pc + 1), .bool false, .bool false, .bool false] 55)) (g := w2.heap.size + 1) (by simp))
 have WB := Kept.mk ((W2.out.trans (bI.mono W2.out.size)).trans (bE.mono (by simp; omega)))
 have RS := Kept.mk (((RS0.out.past W2.out).past bI).past bE)
 have HBL := Kept.mk (((HBR.out.past W2.out).past bI).past bE)
 have HS10 : w2.heap.size + 1 < ((w2.alloc (.cells #[.int .i64 kind, .int .i64 op, .int .i64 xd, .bool ar, .int .i64 an, .bool br, .int .i64 bn, .string name, .int .i64 target] 53)).alloc (.cells #[.int .i64 pc, .int .i64 0, .int .i64 0, .int .i64 (-1), .int .i64 (pc + 1), .bool false, .bool false, .bool false] 55)).heap.size := by simp
 have HSW : w.heap.size + 3 ≤ ((w2.alloc (.cells #[.int .i64 kind, .int .i64 op, .int .i64 xd, .bool ar, .int .i64 an, .bool br, .int .i64 bn, .string name, .int .i64 target] 53)).alloc (.cells #[.int .i64 pc, .int .i64 0, .int .i64 0, .int .i64 (-1), .int .i64 (pc + 1), .bool false, .bool false, .bool false] 55)).heap.size := by simp; omega
 clear bI bE
 refine q25 ((w2.alloc (.cells #[.int .i64 kind, .int .i64 op, .int .i64 xd, .bool ar, .int .i64 an, .bool br, .int .i64 bn, .string name, .int .i64 target] 53)).alloc (.cells #[.int .i64 pc, .int .i64 0, .int .i64 0, .int .i64 (-1), .int .i64 (pc + 1), .bool false, .bool false, .bool false] 55)) (w.heap.size + 1) (w2.heap.size + 1) _ ⟨⟨r0, r1, r2, r3, ⟨mA, mem.length, mC⟩, ⟨sA, stack.length, sC⟩, pc⟩, ⟨bA, l.length, bC⟩, ⟨qA, rsb.length, qC⟩, 0⟩ ⟨pc, 0, 0, -1, pc + 1, false, false, false⟩ l X4 X10 HBL ⟨rfl⟩ HO4 hln rfl (by omega) HS10 (by omega) _ ?_
 rintro _ _ _ _ _ _ _ _ wf s hown hx4 hgr
 have X4f := hx4
 have X10f := (hgr.block (w2.heap.size + 1) HS10 (by intro h; injection h with h; omega)).trans X10.out
 have X6f := (hgr.block (w.heap.size + 1 + 1) (by omega) (by intro h; injection h with h; omega)).trans X6.out
 have R1 := RS.out.row ⟨⟨_, X4.out⟩, hgr⟩ (by decide)
 have hgs : ((w2.alloc (.cells #[.int .i64 kind, .int .i64 op, .int .i64 xd, .bool ar, .int .i64 an, .bool br, .int .i64 bn, .string name, .int .i64 target] 53)).alloc (.cells #[.int .i64 pc, .int .i64 0, .int .i64 0, .int .i64 (-1), .int .i64 (pc + 1), .bool false, .bool false, .bool false] 55)).heap.size ≤ wf.heap.size := hgr.size
 have Y4 := fun j => cell_of_row wf (w.heap.size + 1) j _ _ _ X4f
 have F4 := fun j => frozen_of_row wf (w.heap.size + 1) j _ _ X4f
 have Y10 := fun j => cell_of_row wf ((w2.heap.size + 1)) j _ _ _ X10f
 have Y6 := fun j => cell_of_row wf (w.heap.size + 1 + 1) j _ _ _ X6f
 have F6 := fun j => frozen_of_row wf (w.heap.size + 1 + 1) j _ _ X6f
 simp only [Cnf.cs, Cnf.zero, Sl.none] at Y4 Y10 Y6
 have B1 := Kept.mk (Below.keepTo WB.out hgr (show w.heap.size ≤ w.heap.size + 1 by omega) WB.out.size)
 have R2 := Kept.mk (R1.row (q0F (j := 6) X4f (.int .i64 (Ent.next ⟨pc, 0, 0, -1, pc + 1, false, false, false⟩))) (by decide))
 have B2 := Kept.mk (B1.out.setCell (p := ⟨w.heap.size + 1, 6, none⟩) (show w.heap.size ≤ w.heap.size + 1 by omega) (.int .i64 (Ent.next ⟨pc, 0, 0, -1, pc + 1, false, false, false⟩)))
 have X6g := Kept.mk (q03 (p := ⟨w.heap.size + 1, 6, none⟩) (u := .int .i64 (Ent.next ⟨pc, 0, 0, -1, pc + 1, false, false, false⟩)) X6f (by simp))
 have O2 := Kept.mk (OwnE.far hown (p := ⟨w.heap.size + 1, 6, none⟩) (by show w.heap.size + 1 < ((w2.alloc (.cells #[.int .i64 kind, .int .i64 op, .int .i64 xd, .bool ar, .int .i64 an, .bool br, .int .i64 bn, .string name, .int .i64 target] 53)).alloc (.cells #[.int .i64 pc, .int .i64 0, .int .i64 0, .int .i64 (-1), .int .i64 (pc + 1), .bool false, .bool false, .bool false] 55)).heap.size; omega) (.int .i64 (Ent.next ⟨pc, 0, 0, -1, pc + 1, false, false, false⟩)))
 clear hown hx4 hgr X4f X10f X6f R1 X4 X6 X10 RS WB HBL
 go_wp2_with fail
 have R3 := R2.out.row ⟨⟨_, X6g.out⟩, grown10 _ (w.heap.size + 1 + 1) ⟨⟨r0, r1, r2, r3, ⟨mA, mem.length, mC⟩, ⟨sA, stack.length, sC⟩, (Ent.next ⟨pc, 0, 0, -1, pc + 1, false, false, false⟩)⟩, s, ⟨qA, rsb.length, qC⟩, 0⟩⟩ (by decide)
 have B3 := below10 (g := w.heap.size + 1 + 1) ⟨⟨r0, r1, r2, r3, ⟨mA, mem.length, mC⟩, ⟨sA, stack.length, sC⟩, (Ent.next ⟨pc, 0, 0, -1, pc + 1, false, false, false⟩)⟩, s, ⟨qA, rsb.length, qC⟩, 0⟩ B2.out (by omega)
 have O3 := own10 (g := w.heap.size + 1 + 1) ⟨⟨r0, r1, r2, r3, ⟨mA, mem.length, mC⟩, ⟨sA, stack.length, sC⟩, (Ent.next ⟨pc, 0, 0, -1, pc + 1, false, false, false⟩)⟩, s, ⟨qA, rsb.length, qC⟩, 0⟩ O2.out (by omega)
 have X3 := q11 Cnf.zero ⟨⟨r0, r1, r2, r3, ⟨mA, mem.length, mC⟩, ⟨sA, stack.length, sC⟩, (Ent.next ⟨pc, 0, 0, -1, pc + 1, false, false, false⟩)⟩, s, ⟨qA, rsb.length, qC⟩, 0⟩ X6g.out
 dsimp only at R3 B3 O3 X3
 refine q0C _ [Cnf.v ⟨⟨r0, r1, r2, r3, ⟨mA, mem.length, mC⟩, ⟨sA, stack.length, sC⟩, (Ent.next ⟨pc, 0, 0, -1, pc + 1, false, false, false⟩)⟩, s, ⟨qA, rsb.length, qC⟩, 0⟩, .bool true] Try.results45 (.cons (.cell (cs := Cnf.cs ⟨⟨r0, r1, r2, r3, ⟨mA, mem.length, mC⟩, ⟨sA, stack.length, sC⟩, (Ent.next ⟨pc, 0, 0, -1, pc + 1, false, false, false⟩)⟩, s, ⟨qA, rsb.length, qC⟩, 0⟩) (b := w.heap.size + 1 + 1) (off := 0) rfl rfl (q05 X3) Try.underlying41 rfl (by kernel_rfl)) (.cons (.tmp rfl) .nil)) rfl ?_
 rw [← HF.out]
 exact ⟨⟨⟨r0, r1, r2, r3, ⟨mA, mem.length, mC⟩, ⟨sA, stack.length, sC⟩, (Ent.next ⟨pc, 0, 0, -1, pc + 1, false, false, false⟩)⟩, s, ⟨qA, rsb.length, qC⟩, 0⟩, rfl, ⟨⟨rfl, rfl, rfl, rfl, R3.xa, R3.xb, rfl⟩, OwnE.is (s := s) O3, R3.xc, rfl⟩, ⟨R3.ta, R3.tb, Tag.of_own O3, R3.tc⟩, B3⟩
end
end Go.Proofs.Ytchldbkjapnlcaa
