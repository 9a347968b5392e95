/- The document's own answer, layer 16: the oldest is committed. -/
import Derived.Test.YtchldbkjapnlcaaJf
set_option linter.unusedVariables false
set_option linter.unusedSimpArgs false
namespace Go.Proofs.Ytchldbkjapnlcaa
open Go.RowKit
section
def setReg (s : State) (d v : Int) : State :=
 if d = 0 then { s with r0 := v } else if d = 1 then { s with r1 := v } else if d = 2 then { s with r2 := v } else { s with r3 := v }
def retireOf (il : List Inst) (m : Conf) : Conf := match m.buf with
 | [] => m
 | e :: t =>
  let x := instAt il e.pc
  if e.fault = true ∨ x.kind = 12 then { st := { m.st with pc := e.pc }, buf := [], rsb := [], fin := 2 }
  else if x.kind = 11 then { st := { m.st with pc := e.pc }, buf := [], rsb := [], fin := 1 }
  else if x.kind = 1 ∨ x.kind = 2 ∨ x.kind = 4 then { m with st := setReg m.st x.d e.val, buf := popEnts (e :: t) }
  else if x.kind = 3 then { m with st := { m.st with mem := m.st.mem.set e.addr.toNat e.val }, buf := popEnts (e :: t) }
  else if x.kind = 8 then { m with st := { m.st with stack := m.st.stack ++ [e.pc + 1] }, buf := popEnts (e :: t) }
  else if x.kind = 9 then { m with st := { m.st with stack := m.st.stack.dropLast }, buf := popEnts (e :: t) }
  else { m with buf := popEnts (e :: t) }
def retFit (il : List Inst) (m : Conf) : Prop := ∀ e t, m.buf = e :: t →
 (e.fault = false → (instAt il e.pc).kind = 3 → 0 ≤ e.addr ∧ e.addr < m.st.mem.length) ∧ (e.fault = false → (instAt il e.pc).kind = 9 → m.st.stack ≠ []) ∧ (-2 ≤ e.pc ∧ e.pc ≤ 1000000) ∧ 0 ≤ (instAt il e.pc).d ∧ (instAt il e.pc).d ≤ 3
theorem RdEs.row {w w' : World} {s : Sl} {l : List Ent} {g : Nat} {t : TypeId} (h : RdEs w s l) (htg : Tag w 55 s.A s.n) (hs : RowStep g t w w') (ht : t ≠ 55) : RdEs w' s l := ⟨h.n, h.c, Reads.row h.r (by rw [← h.n]; exact htg) hs ht⟩
structure CfAll (w : World) (a b c d : Sl) (la lb lc : List Int) (ld : List Ent) : Prop where
 r : CfRest w a b c la lb lc
 xd : RdEs w d ld
 td : Tag w 55 d.A d.n
theorem CfAll.row {w w' : World} {a b c d : Sl} {la lb lc : List Int} {ld : List Ent} {g : Nat} {t : TypeId} (h : CfAll w a b c d la lb lc ld) (hs : RowStep g t w w') (h1 : t ≠ 3) (h2 : t ≠ 55) : CfAll w' a b c d la lb lc ld :=
 ⟨h.r.row hs h1, h.xd.row h.td hs h2, h.td.row hs h2⟩
theorem CfAll.past {w w' : World} {a b c d : Sl} {la lb lc : List Int} {ld : List Ent} (h : CfAll w a b c d la lb lc ld) (hb : Below w.heap.size w w') : CfAll w' a b c d la lb lc ld := ⟨h.r.past hb, h.xd.past hb, h.td.past hb⟩
theorem CfAll.ended {w : World} {a b c d : Sl} {la lb lc : List Int} {ld : List Ent} (h : CfAll w a b c d la lb lc ld) : CfAll w a b Sl.none Sl.none la lb [] [] := ⟨⟨h.r.xa, h.r.xb, RdIs.nil, h.r.ta, h.r.tb, Tag.zero⟩, RdEs.nil, Tag.zero⟩
theorem OwnI.elS {w : World} {B : Nat} {A : Option Addr} {n c : Nat} {l : List Int} (h : OwnI w B (.slice A n c) l) {k : Nat} (hk : k < l.length) (v : Int) :
  ∃ g, A = some ⟨g, 0, none⟩ ∧ B ≤ g ∧ (∃ cur : Array Value, w.heap[g]? = some (.cells cur 3 (0, 0))) ∧ w.cell? ⟨g, k, none⟩ = some (.int .i64 l[k]) ∧ w.frozen? ⟨g, k, none⟩ = false ∧ OwnI (w.setCell ⟨g, k, none⟩ (.int .i64 v)) B (.slice A n c) (l.set k v) := by
 obtain ⟨g, cap, hv, hb, hlt⟩ := World.ownsRow.form h (by omega)
 injection hv with e1 e2 e3
 subst e1 e2 e3
 refine ⟨g, rfl, hb, ?_, ?_, World.ownsRow.frozenAt h k, ?_⟩
 ·rcases h.2 with ⟨hn, _⟩ | ⟨g', cap', cur, hn, _, hg, _⟩
  ·simp at hn
  ·simp only [Value.slice.injEq, Option.some.injEq, Addr.mk.injEq, and_true, true_and] at hn
   rw [hn.1]
   exact ⟨cur, hg⟩
 ·rw [World.ownsRow.cellAt h k (by omega)]
  simp [intCs, hk]
 ·have := (World.ownsRow.stored h k (.int .i64 v)).1
  unfold OwnI
  rw [List.length_set]
  simpa [intCs, List.map_set] using this
theorem stt_set7 {w : World} {g : Nat} {t : TypeId} (old : Cnf) (e : Stt) (h : w.heap[g]? = some (.cells old.cs.toArray t (0, 0))) :
  (((((((w.setCell ⟨g, 0, none⟩ (.int .i64 e.r0)).setCell ⟨g, 1, none⟩ (.int .i64 e.r1)).setCell ⟨g, 2, none⟩ (.int .i64 e.r2)).setCell ⟨g, 3, none⟩ (.int .i64 e.r3)).setCell ⟨g, 4, none⟩ (.slice e.mem.A e.mem.n e.mem.c)).setCell ⟨g, 5, none⟩ (.slice e.stack.A e.stack.n e.stack.c)).setCell ⟨g, 6, none⟩ (.int .i64 e.pc)).heap[g]? = some (.cells (Cnf.cs { old with st := e }).toArray t (0, 0)) := by
 rw [heap_setCell_same _ g 6 _ t _ (heap_setCell_same _ g 5 _ t _ (heap_setCell_same _ g 4 _ t _ (heap_setCell_same _ g 3 _ t _ (heap_setCell_same _ g 2 _ t _ (heap_setCell_same _ g 1 _ t _ (heap_setCell_same _ g 0 _ t _ h))))))]
 rfl
theorem grown7 (w : World) (g : Nat) (e : Stt) : w.grownBy (((((((w.setCell ⟨g, 0, none⟩ (.int .i64 e.r0)).setCell ⟨g, 1, none⟩ (.int .i64 e.r1)).setCell ⟨g, 2, none⟩ (.int .i64 e.r2)).setCell ⟨g, 3, none⟩ (.int .i64 e.r3)).setCell ⟨g, 4, none⟩ (.slice e.mem.A e.mem.n e.mem.c)).setCell ⟨g, 5, none⟩ (.slice e.stack.A e.stack.n e.stack.c)).setCell ⟨g, 6, none⟩ (.int .i64 e.pc)) (some g) :=
 ((((((q08 w ⟨g, 0, none⟩ _).trans (q08 _ ⟨g, 1, none⟩ _)).trans (q08 _ ⟨g, 2, none⟩ _)).trans (q08 _ ⟨g, 3, none⟩ _)).trans (q08 _ ⟨g, 4, none⟩ _)).trans (q08 _ ⟨g, 5, none⟩ _)).trans (q08 _ ⟨g, 6, none⟩ _)
theorem below7 {w0 w : World} {B g : Nat} (e : Stt) (h : Below B w0 w) (hg : B ≤ g) : Below B w0 (((((((w.setCell ⟨g, 0, none⟩ (.int .i64 e.r0)).setCell ⟨g, 1, none⟩ (.int .i64 e.r1)).setCell ⟨g, 2, none⟩ (.int .i64 e.r2)).setCell ⟨g, 3, none⟩ (.int .i64 e.r3)).setCell ⟨g, 4, none⟩ (.slice e.mem.A e.mem.n e.mem.c)).setCell ⟨g, 5, none⟩ (.slice e.stack.A e.stack.n e.stack.c)).setCell ⟨g, 6, none⟩ (.int .i64 e.pc)) := by
 iterate 7 refine Below.setCell ?_ (by exact hg) _
 exact h
set_option maxRecDepth 100000 in
set_option maxHeartbeats 60000000 in
theorem retire_at (p : Prg) (il : List Inst) (c : Cnf) (m : Conf) (w : World) (hp : PIs w p il) (hc : CfIs w c m) (hty : CfTy w c)
  (hln : m.buf.length ≤ 1000) (hml : m.st.mem.length ≤ 1000) (hsl : m.st.stack.length ≤ 1000) (hsm : Small m.buf) (hfit : retFit il m) (hcan : canRetOf il m = true) :
  Calls Try.prog 35 #[p.v, c.v] w (CfAnd (retireOf il m) w) := by
 have HC := Kept.mk hc
 have HP := Kept.mk hp
 have RS0 := Kept.mk (CfRest.of hc hty)
 have HG := Kept.mk (fun w1 h1 h2 => canRet_any p il c m w1 h1 h2 (by omega))
 rw [hcan] at HG
 clear hp
 obtain ⟨⟨r0, r1, r2, r3, ⟨mA, mN, mC⟩, ⟨sA, sN, sC⟩, pc⟩, ⟨bA, bN, bC⟩, ⟨qA, qN, qC⟩, fin⟩ := c
 obtain ⟨⟨q0, q1, q2, q3, mem, stack, qc⟩, l, rsb, qf⟩ := m
 obtain ⟨⟨h0, h1, h2, h3, ⟨hmn, hmc, hmr⟩, ⟨hsn, hsc, hsr⟩, hpc⟩, ⟨hbn, hbc, hbr⟩, ⟨hqn, hqc, hqr⟩, hf⟩ := hc
 simp only at h0 h1 h2 h3 hpc hf hbn hbc hbr hln hmn hmc hmr hsn hsc hsr hsl hqn hqc hqr hml hsm
 subst h0 h1 h2 h3 hpc hf hbn hmn hsn hqn
 cases l with
 | nil => cases hcan
 | cons e t =>
 have hfin : fin = 0 := by
  unfold canRetOf at hcan
  simp only [Bool.and_eq_true, decide_eq_true_eq] at hcan
  exact hcan.1
 subst hfin
 obtain ⟨hf1, hf2, ⟨hpc0, hpc1⟩, hd0, hd1⟩ := hfit e t rfl
 simp only at hf1 hf2
 have HBR := Kept.mk hbr
 have HSM := Kept.mk hsm
 obtain ⟨b, o, rfl, hbb, hel⟩ := hbr.el (k := 0) (by simp)
 simp only [Nat.zero_mul, Nat.add_zero, List.getElem_cons_zero] at hel
 have HEL := Kept.mk hel
 have HBB := Kept.mk hbb
 clear hmr hsr hbr hqr hty hsm hel hbb hcan hfit
 generalize hF : retireOf il ⟨⟨r0, r1, r2, r3, mem, stack, pc⟩, e :: t, rsb, 0⟩ = FO
 unfold retireOf at hF
 simp only at hF
 generalize hx : instAt il e.pc = x at hF hf1 hf2 hd0 hd1
 have HAT : Kept (∀ w1, PIs w1 p il → Calls Try.prog 62 #[p.v, .int .i64 e.pc] w1 fun en w' => en = .returned x.v ∧ Below w1.heap.size w1 w') := ⟨fun w1 h => by rw [← hx]; exact at7 p il e.pc w1 h⟩
 have HF1 := Kept.mk hf1
 have HF2 := Kept.mk hf2
 have HFO := Kept.mk hF
 have HD := Kept.mk (And.intro hd0 hd1)
 clear hx hF hf1 hf2 hd0 hd1
 obtain ⟨kind, op, xd, ar, an, br, bn, name, target⟩ := x
 simp only at HFO HF1 HF2 HD
 go_enter Try.func35, Try.ntmps35
 go_wp2_with fail
 have HB := Kept.mk (((q00 w (.cells p.cs.toArray 33)).alloc (by simp) (.cells (Cnf.cs ⟨⟨r0, r1, r2, r3, ⟨mA, mem.length, mC⟩, ⟨sA, stack.length, sC⟩, pc⟩, ⟨some ⟨b, o, none⟩, (e :: t).length, bC⟩, ⟨qA, rsb.length, qC⟩, 0⟩).toArray 41)).alloc (by simp; omega) (.cells Cnf.zero.cs.toArray 41))
 refine (HG.out _ (HP.out.past HB.out) (HC.out.past HB.out)).mono ?_
 rintro en w1 ⟨rfl, b1⟩
 have W1 := Kept.mk (HB.out.trans (b1.mono HB.out.size))
 have X2 := (b1.block w.heap.size (by simp <;> omega)).trans ((heap_alloc_old _ _ (by simp; omega)).trans ((heap_alloc_old _ _ (by simp)).trans (heap_alloc_new w (.cells p.cs.toArray 33))))
 have X3 := (b1.block (w.heap.size + 1) (by simp <;> omega)).trans ((heap_alloc_old _ _ (by simp)).trans (heap_alloc2_new w (.cells p.cs.toArray 33) (.cells (Cnf.cs ⟨⟨r0, r1, r2, r3, ⟨mA, mem.length, mC⟩, ⟨sA, stack.length, sC⟩, pc⟩, ⟨some ⟨b, o, none⟩, (e :: t).length, bC⟩, ⟨qA, rsb.length, qC⟩, 0⟩).toArray 41)))
 have X4 := (b1.block (w.heap.size + 1 + 1) (by simp <;> omega)).trans (q06 (o := (.cells Cnf.zero.cs.toArray 41)) (by simp))
 have S1 : w.heap.size + 3 ≤ w1.heap.size := by have := b1.size; simp at this; omega
 have Y2 := fun j => cell_of_row w1 w.heap.size j _ _ _ X2
 have Y2a := fun j => cell_of_row (w1.alloc (.cells e.cs.toArray 55)) w.heap.size j _ _ _ (q01 X2 (q00 w1 _))
 have Y3 := fun j => cell_of_row w1 (w.heap.size + 1) j _ _ _ X3
 simp only [Prg.cs, Cnf.cs, Ent.cs] at Y2 Y2a Y3
 have hel1 : CellsAt w1 b o e.cs := HEL.out.past HBB.out W1.out
 have c0 := hel1 0 _ rfl
 have c1 := hel1 1 _ rfl
 have c2 := hel1 2 _ rfl
 have c3 := hel1 3 _ rfl
 have c4 := hel1 4 _ rfl
 have c5 := hel1 5 _ rfl
 have c6 := hel1 6 _ rfl
 have c7 := hel1 7 _ rfl
 simp only [Nat.add_zero] at c0
 have hbw : b < w.heap.size := HBB.out
 have hne1 : b ≠ w.heap.size + 1 := by omega
 have hne2 : b ≠ w1.heap.size := by omega
 have K3 := Kept.mk X3
 have K4 := Kept.mk X4
 clear X2 X3 X4 b1 hel1 HG
 go_wp2_with fail
 have W1a := Kept.mk (W1.out.trans ((q00 w1 (.cells e.cs.toArray 55)).mono W1.out.size))
 refine (HAT.out _ (HP.out.past W1a.out)).mono ?_
 rintro en w2 ⟨rfl, b2⟩
 have W2 := Kept.mk (W1a.out.trans (b2.mono W1a.out.size))
 have K3 := Kept.mk (q01 (q01 K3.out (q00 w1 _)) b2)
 have K4 := Kept.mk (q01 (q01 K4.out (q00 w1 _)) b2)
 have K6 := Kept.mk (q01 (heap_alloc_new w1 (.cells e.cs.toArray 55)) b2)
 have S2 : w1.heap.size + 1 ≤ w2.heap.size := by have := b2.size; simpa using this
 clear Y2 Y2a Y3 c0 c1 c2 c3 c4 c5 c6 c7 b2 W1a hne1 hne2
 go_upto_region 5 with (fail)
 have bI := q00 w2 (.cells #[.int .i64 kind, .int .i64 op, .int .i64 xd, .bool ar, .int .i64 an, .bool br, .int .i64 bn, .string name, .int .i64 target] 53)
 have K3 := Kept.mk (q01 K3.out bI)
 have K4 := Kept.mk (q01 K4.out bI)
 have K6 := Kept.mk (q01 K6.out bI)
 have K7 := Kept.mk (heap_alloc_new w2 (.cells #[.int .i64 kind, .int .i64 op, .int .i64 xd, .bool ar, .int .i64 an, .bool br, .int .i64 bn, .string name, .int .i64 target] 53))
 have SZ : w2.heap.size + 1 ≤ (w2.alloc (.cells #[.int .i64 kind, .int .i64 op, .int .i64 xd, .bool ar, .int .i64 an, .bool br, .int .i64 bn, .string name, .int .i64 target] 53)).heap.size := by simp
 have WZ := Kept.mk (W2.out.trans (bI.mono W2.out.size))
 clear bI
 generalize w2.alloc (.cells #[.int .i64 kind, .int .i64 op, .int .i64 xd, .bool ar, .int .i64 an, .bool br, .int .i64 bn, .string name, .int .i64 target] 53) = wz at *
 have Y3 := fun j => cell_of_row wz (w.heap.size + 1) j _ _ _ K3.out
 simp only [Cnf.cs] at Y3
 go_wp2_with fail
 refine (ref_pop _ bC (e :: t) wz (HBR.out.past WZ.out) (by omega) HSM.out).mono ?_
 rintro en w3 ⟨v3, rfl, ho, b3⟩
 obtain ⟨A3, c3, rfl, hc3, -⟩ := ho.shape
 have OB := Kept.mk ho
 have W3 := Kept.mk (WZ.out.trans (b3.mono WZ.out.size))
 have K3 := Kept.mk (q01 K3.out b3)
 have K4 := Kept.mk (q01 K4.out b3)
 have K6 := Kept.mk (q01 K6.out b3)
 have K7 := Kept.mk (q01 K7.out b3)
 have S3 : wz.heap.size ≤ w3.heap.size := b3.size
 clear b3 Y3 ho
 have Y3 := fun j => cell_of_row w3 (w.heap.size + 1) j _ _ _ K3.out
 have F3 := frozen_of_row w3 (w.heap.size + 1) 7 _ _ K3.out
 simp only [Cnf.cs] at Y3
 go_upto_region 6 with (fail)
 have x3 := heap_setCell_same w3 (w.heap.size + 1) 7 _ _ (.slice A3 (popEnts (e :: t)).length c3) K3.out
 have x4 := q03 (p := ⟨w.heap.size + 1, 7, none⟩) (u := .slice A3 (popEnts (e :: t)).length c3) K4.out (by simp)
 have x6 := q03 (p := ⟨w.heap.size + 1, 7, none⟩) (u := .slice A3 (popEnts (e :: t)).length c3) K6.out (by show w.heap.size + 1 ≠ w1.heap.size; omega)
 have x7 := q03 (p := ⟨w.heap.size + 1, 7, none⟩) (u := .slice A3 (popEnts (e :: t)).length c3) K7.out (by show w.heap.size + 1 ≠ w2.heap.size; omega)
 have w40 := W3.out.setCell (p := ⟨w.heap.size + 1, 7, none⟩) (show w.heap.size ≤ w.heap.size + 1 by omega) (.slice A3 (popEnts (e :: t)).length c3)
 have ob4 := OwnE.far OB.out (p := ⟨w.heap.size + 1, 7, none⟩) (by show w.heap.size + 1 < wz.heap.size; omega) (.slice A3 (popEnts (e :: t)).length c3)
 have S4 : w3.heap.size ≤ (w3.setCell ⟨w.heap.size + 1, 7, none⟩ (.slice A3 (popEnts (e :: t)).length c3)).heap.size := by simp [World.setCell]
 clear K3 K4 K6 K7 W3 OB Y3 F3
 generalize w3.setCell ⟨w.heap.size + 1, 7, none⟩ (.slice A3 (popEnts (e :: t)).length c3) = w4 at *
 have K3 := Kept.mk x3
 have Y3 := fun j => cell_of_row w4 (w.heap.size + 1) j _ _ _ x3
 simp only [List.set, Cnf.cs, List.setIfInBounds_toArray, List.set_cons_zero, List.set_cons_succ] at Y3
 have K4 := Kept.mk x4
 have K6 := Kept.mk x6
 have K7 := Kept.mk x7
 have W4 := Kept.mk w40
 have OB := Kept.mk ob4
 clear x3 x4 x6 x7 w40 ob4
 go_upto_region 7 with (fail)
 have b5 := q00 w4 (.cells #[.int .i64 r0, .int .i64 r1, .int .i64 r2, .int .i64 r3, .slice mA mem.length mC, .slice sA stack.length sC, .int .i64 pc] 36)
 have K3 := Kept.mk (q01 K3.out b5)
 have K4 := Kept.mk (q01 K4.out b5)
 have K6 := Kept.mk (q01 K6.out b5)
 have K7 := Kept.mk (q01 K7.out b5)
 have K8 := Kept.mk (heap_alloc_new w4 (.cells #[.int .i64 r0, .int .i64 r1, .int .i64 r2, .int .i64 r3, .slice mA mem.length mC, .slice sA stack.length sC, .int .i64 pc] 36))
 have W5 := Kept.mk (W4.out.trans (b5.mono W4.out.size))
 have S5 : w4.heap.size + 1 ≤ (w4.alloc (.cells #[.int .i64 r0, .int .i64 r1, .int .i64 r2, .int .i64 r3, .slice mA mem.length mC, .slice sA stack.length sC, .int .i64 pc] 36)).heap.size := by simp
 have OB5 := Kept.mk (OB.out.past b5)
 have RS := Kept.mk (RS0.out.past W5.out)
 have HMO : Kept (0 < mem.length → ∀ ad, mA = some ad → ad.block ≠ w4.heap.size) := ⟨fun h ad he => by
  obtain ⟨ad', e', _, hb', _⟩ := RS0.out.xa.r.2 h
  have e' : mA = some ad' := e'
  rw [he] at e'
  injection e' with e'
  subst e'
  omega⟩
 have HSO : Kept (0 < stack.length → ∀ ad, sA = some ad → ad.block ≠ w4.heap.size) := ⟨fun h ad he => by
  obtain ⟨ad', e', _, hb', _⟩ := RS0.out.xb.r.2 h
  have e' : sA = some ad' := e'
  rw [he] at e'
  injection e' with e'
  subst e'
  omega⟩
 have hblt := fun k hk => (World.ownsRow.lt OB.out k hk).2
 clear b5 Y3
 generalize w4.alloc (.cells #[.int .i64 r0, .int .i64 r1, .int .i64 r2, .int .i64 r3, .slice mA mem.length mC, .slice sA stack.length sC, .int .i64 pc] 36) = w5 at *
 refine retire_clone w5 w4.heap.size _ ⟨r0, r1, r2, r3, ⟨mA, mem.length, mC⟩, ⟨sA, stack.length, sC⟩, pc⟩ mem stack K8 ⟨RS.out.xa.r⟩ ⟨rfl⟩ HMO ⟨RS.out.xb.r⟩ ⟨rfl⟩ HSO hml hsl rfl (by omega) _ ?_
 rintro _ _ _ _ _ _ _ _ _ _ w9 sM sS hM hS hap hx8 hgr
 have OM := Kept.mk hM
 have OS := Kept.mk hS
 have AP := Kept.mk hap
 have K3 := Kept.mk ((hgr.block (w.heap.size + 1) (by omega) (by intro h; injection h with h; omega)).trans K3.out)
 have K4 := Kept.mk ((hgr.block (w.heap.size + 1 + 1) (by omega) (by intro h; injection h with h; omega)).trans K4.out)
 have K6 := Kept.mk ((hgr.block w1.heap.size (by omega) (by intro h; injection h with h; omega)).trans K6.out)
 have K7 := Kept.mk ((hgr.block w2.heap.size (by omega) (by intro h; injection h with h; omega)).trans K7.out)
 have K8 := Kept.mk hx8
 have W9 := Kept.mk (Below.keepTo W5.out hgr (show w.heap.size ≤ w4.heap.size by omega) W5.out.size)
 have OB9 : Kept (OwnE w9 wz.heap.size (.slice A3 (popEnts (e :: t)).length c3) (popEnts (e :: t))) := ⟨World.ownsRow.kept OB5.out hgr (by
  cases hv : (Value.slice A3 (popEnts (e :: t)).length c3).ownBlock with
  | none => exact .inl rfl
  | some k => exact .inr (fun e => by injection e with e; have := hblt k hv; omega))⟩
 have RQ := Kept.mk (RS0.out.past W9.out)
 have S9 : w5.heap.size ≤ w9.heap.size := hgr.size
 clear hM hS hap hx8 hgr OB OB5 RS HMO HSO W5 W4
 have HBL := Kept.mk hblt
 clear hblt
 simp only [List.set, Cnf.cs, List.setIfInBounds_toArray, List.set_cons_zero, List.set_cons_succ] at K3
 have Y3 := fun j => cell_of_row w9 (w.heap.size + 1) j _ _ _ K3.out
 have F3 := fun j => frozen_of_row w9 (w.heap.size + 1) j _ _ K3.out
 have Y6 := fun j => cell_of_row w9 w1.heap.size j _ _ _ K6.out
 have Y7 := fun j => cell_of_row w9 w2.heap.size j _ _ _ K7.out
 have Y8 := fun j => cell_of_row w9 w4.heap.size j _ _ _ K8.out
 have F8 := fun j => frozen_of_row w9 w4.heap.size j _ _ K8.out
 simp only [Cnf.cs, Ent.cs, Stt.cs] at Y6 Y7 Y8
 have X3 := K3
 have X4 := K4
 have X8 := K8
 have WB := W9
 have RA : Kept (CfAll w9 sM sS ⟨qA, rsb.length, qC⟩ ⟨A3, (popEnts (e :: t)).length, c3⟩ mem stack rsb (popEnts (e :: t))) :=
  ⟨⟨⟨OM.out.is, OS.out.is, RQ.out.xc, Tag.of_own OM.out, Tag.of_own OS.out, RQ.out.tc⟩, OB9.out.is, Tag.of_own OB9.out⟩⟩
 clear K3 K4 K8 W9 K6 K7 RQ HEL HBB HSM HBR HC HAT HP W1 W2 WZ
 have hn83 : w4.heap.size ≠ w.heap.size + 1 := by omega
 have hn38 : w.heap.size + 1 ≠ w4.heap.size := by omega
 have hn36 : w.heap.size + 1 ≠ w1.heap.size := by omega
 have hn37 : w.heap.size + 1 ≠ w2.heap.size := by omega
 have hn86 : w4.heap.size ≠ w1.heap.size := by omega
 have hn87 : w4.heap.size ≠ w2.heap.size := by omega
 generalize popEnts (e :: t) = pb at *
 obtain ⟨epc, ev, ea, efr, en, ed, ek, eflt⟩ := e
 simp only at Y6 HFO HF1 HF2 hpc0 hpc1
 cases eflt
 case true =>
  have hF := HFO.out
  rw [if_pos (.inl rfl)] at hF
  have HF := Kept.mk hF
  clear hF HFO HF1 HF2
  go_upto_region 23 with (fail)
  have RA := Kept.mk (RA.out.row (q0F (j := 9) X3.out (.int .i64 2)) (by decide) (by decide))
  have WB := Kept.mk (WB.out.setCell (p := ⟨w.heap.size + 1, 9, none⟩) (show w.heap.size ≤ w.heap.size + 1 by omega) (.int .i64 2))
  have X4 := Kept.mk (q03 (p := ⟨w.heap.size + 1, 9, none⟩) (u := .int .i64 2) X4.out (by show w.heap.size + 1 ≠ w.heap.size + 1 + 1; omega))
  have X8 := Kept.mk (q03 (p := ⟨w.heap.size + 1, 9, none⟩) (u := .int .i64 2) X8.out (by show w.heap.size + 1 ≠ w4.heap.size; omega))
  have X3 := Kept.mk (heap_setCell_same _ (w.heap.size + 1) 9 _ _ (.int .i64 2) X3.out)
  have RA := Kept.mk (RA.out.row (q0F (j := 7) X3.out (.slice none 0 0)) (by decide) (by decide))
  have WB := Kept.mk (WB.out.setCell (p := ⟨w.heap.size + 1, 7, none⟩) (show w.heap.size ≤ w.heap.size + 1 by omega) (.slice none 0 0))
  have X4 := Kept.mk (q03 (p := ⟨w.heap.size + 1, 7, none⟩) (u := .slice none 0 0) X4.out (by show w.heap.size + 1 ≠ w.heap.size + 1 + 1; omega))
  have X8 := Kept.mk (q03 (p := ⟨w.heap.size + 1, 7, none⟩) (u := .slice none 0 0) X8.out (by show w.heap.size + 1 ≠ w4.heap.size; omega))
  have X3 := Kept.mk (heap_setCell_same _ (w.heap.size + 1) 7 _ _ (.slice none 0 0) X3.out)
  have RA := Kept.mk (RA.out.row (q0F (j := 8) X3.out (.slice none 0 0)) (by decide) (by decide))
  have WB := Kept.mk (WB.out.setCell (p := ⟨w.heap.size + 1, 8, none⟩) (show w.heap.size ≤ w.heap.size + 1 by omega) (.slice none 0 0))
  have X4 := Kept.mk (q03 (p := ⟨w.heap.size + 1, 8, none⟩) (u := .slice none 0 0) X4.out (by show w.heap.size + 1 ≠ w.heap.size + 1 + 1; omega))
  have X8 := Kept.mk (q03 (p := ⟨w.heap.size + 1, 8, none⟩) (u := .slice none 0 0) X8.out (by show w.heap.size + 1 ≠ w4.heap.size; omega))
  have X3 := Kept.mk (heap_setCell_same _ (w.heap.size + 1) 8 _ _ (.slice none 0 0) X3.out)
  have RA := Kept.mk (RA.out.row (q0F (j := 6) X8.out (.int .i64 epc)) (by decide) (by decide))
  have WB := Kept.mk (WB.out.setCell (p := ⟨w4.heap.size, 6, none⟩) (show w.heap.size ≤ w4.heap.size by omega) (.int .i64 epc))
  have X4 := Kept.mk (q03 (p := ⟨w4.heap.size, 6, none⟩) (u := .int .i64 epc) X4.out (by show w4.heap.size ≠ w.heap.size + 1 + 1; omega))
  have X3 := Kept.mk (q03 (p := ⟨w4.heap.size, 6, none⟩) (u := .int .i64 epc) X3.out (by show w4.heap.size ≠ w.heap.size + 1; omega))
  have X8 := Kept.mk (heap_setCell_same _ (w4.heap.size) 6 _ _ (.int .i64 epc) X8.out)
  have SQ : w.heap.size + 3 ≤ ((((w9.setCell ⟨w.heap.size + 1, 9, none⟩ (.int .i64 2)).setCell ⟨w.heap.size + 1, 7, none⟩ (.slice none 0 0)).setCell ⟨w.heap.size + 1, 8, none⟩ (.slice none 0 0)).setCell ⟨w4.heap.size, 6, none⟩ (.int .i64 epc)).heap.size := by have := WB.out.size; first | omega | (simp [World.setCell]; omega)
  have SQ8 : w4.heap.size < ((((w9.setCell ⟨w.heap.size + 1, 9, none⟩ (.int .i64 2)).setCell ⟨w.heap.size + 1, 7, none⟩ (.slice none 0 0)).setCell ⟨w.heap.size + 1, 8, none⟩ (.slice none 0 0)).setCell ⟨w4.heap.size, 6, none⟩ (.int .i64 epc)).heap.size := by first | omega | (simp [World.setCell]; omega)
  clear Y3 Y6 Y7 Y8 F3 F8
  generalize ((((w9.setCell ⟨w.heap.size + 1, 9, none⟩ (.int .i64 2)).setCell ⟨w.heap.size + 1, 7, none⟩ (.slice none 0 0)).setCell ⟨w.heap.size + 1, 8, none⟩ (.slice none 0 0)).setCell ⟨w4.heap.size, 6, none⟩ (.int .i64 epc)) = wq at *
  have X3c : wq.heap[w.heap.size + 1]? = some (.cells (Cnf.cs (Cnf.mk ⟨r0, r1, r2, r3, ⟨mA, mem.length, mC⟩, ⟨sA, stack.length, sC⟩, pc⟩ Sl.none Sl.none 2)).toArray 41 (0, 0)) := X3.out
  have X8c : wq.heap[w4.heap.size]? = some (.cells (Stt.cs (Stt.mk r0 r1 r2 r3 sM sS epc)).toArray 36 (0, 0)) := X8.out
  have Y8 := fun j => cell_of_row wq (w4.heap.size) j _ _ _ X8c
  have Y3 := fun j => cell_of_row wq (w.heap.size + 1) j _ _ _ X3c
  have F3 := fun j => frozen_of_row wq (w.heap.size + 1) j _ _ X3c
  simp only [Cnf.cs, Stt.cs] at Y8 Y3
  have X3 := Kept.mk X3c
  clear X3c X8c X8
  go_upto_region 24 with (fail)
  have x3 := stt_set7 (Cnf.mk ⟨r0, r1, r2, r3, ⟨mA, mem.length, mC⟩, ⟨sA, stack.length, sC⟩, pc⟩ Sl.none Sl.none 2) (Stt.mk r0 r1 r2 r3 sM sS epc) X3.out
  have hg7 := grown7 wq (w.heap.size + 1) (Stt.mk r0 r1 r2 r3 sM sS epc)
  have x4 := (hg7.block (w.heap.size + 1 + 1) (by omega) (by intro h; injection h with h; omega)).trans X4.out
  have ra := RA.out.row ⟨⟨_, X3.out⟩, hg7⟩ (by decide) (by decide)
  have wb := below7 (g := w.heap.size + 1) (Stt.mk r0 r1 r2 r3 sM sS epc) WB.out (by omega)
  have sz := hg7.size
  dsimp only at x3 x4 ra wb sz
  clear X3 X4 RA WB Y8 Y3 F3 hg7
  generalize (((((((wq.setCell ⟨w.heap.size + 1, 0, none⟩ _).setCell ⟨w.heap.size + 1, 1, none⟩ _).setCell ⟨w.heap.size + 1, 2, none⟩ _).setCell ⟨w.heap.size + 1, 3, none⟩ _).setCell ⟨w.heap.size + 1, 4, none⟩ _).setCell ⟨w.heap.size + 1, 5, none⟩ _).setCell ⟨w.heap.size + 1, 6, none⟩ _) = wr at *
  have RA := Kept.mk ra
  have WB := Kept.mk wb
  have X4 := Kept.mk x4
  have Y3 := fun j => cell_of_row wr (w.heap.size + 1) j _ _ _ x3
  have Y4 := fun j => cell_of_row wr (w.heap.size + 1 + 1) j _ _ _ x4
  have F4 := fun j => frozen_of_row wr (w.heap.size + 1 + 1) j _ _ x4
  simp only [Cnf.cs, Cnf.zero, Sl.none] at Y3 Y4
  clear x3 ra wb x4
  go_wp2_with fail
  have ra := RA.out.row ⟨⟨_, X4.out⟩, grown10 _ (w.heap.size + 1 + 1) (Cnf.mk (Stt.mk r0 r1 r2 r3 sM sS epc) (Cnf.buf (Cnf.mk ⟨r0, r1, r2, r3, ⟨mA, mem.length, mC⟩, ⟨sA, stack.length, sC⟩, pc⟩ Sl.none Sl.none 2)) (Cnf.rsb (Cnf.mk ⟨r0, r1, r2, r3, ⟨mA, mem.length, mC⟩, ⟨sA, stack.length, sC⟩, pc⟩ Sl.none Sl.none 2)) (Cnf.fin (Cnf.mk ⟨r0, r1, r2, r3, ⟨mA, mem.length, mC⟩, ⟨sA, stack.length, sC⟩, pc⟩ Sl.none Sl.none 2)))⟩ (by decide) (by decide)
  have wb := below10 (g := w.heap.size + 1 + 1) (Cnf.mk (Stt.mk r0 r1 r2 r3 sM sS epc) (Cnf.buf (Cnf.mk ⟨r0, r1, r2, r3, ⟨mA, mem.length, mC⟩, ⟨sA, stack.length, sC⟩, pc⟩ Sl.none Sl.none 2)) (Cnf.rsb (Cnf.mk ⟨r0, r1, r2, r3, ⟨mA, mem.length, mC⟩, ⟨sA, stack.length, sC⟩, pc⟩ Sl.none Sl.none 2)) (Cnf.fin (Cnf.mk ⟨r0, r1, r2, r3, ⟨mA, mem.length, mC⟩, ⟨sA, stack.length, sC⟩, pc⟩ Sl.none Sl.none 2))) WB.out (by omega)
  have x4 := q11 Cnf.zero (Cnf.mk (Stt.mk r0 r1 r2 r3 sM sS epc) (Cnf.buf (Cnf.mk ⟨r0, r1, r2, r3, ⟨mA, mem.length, mC⟩, ⟨sA, stack.length, sC⟩, pc⟩ Sl.none Sl.none 2)) (Cnf.rsb (Cnf.mk ⟨r0, r1, r2, r3, ⟨mA, mem.length, mC⟩, ⟨sA, stack.length, sC⟩, pc⟩ Sl.none Sl.none 2)) (Cnf.fin (Cnf.mk ⟨r0, r1, r2, r3, ⟨mA, mem.length, mC⟩, ⟨sA, stack.length, sC⟩, pc⟩ Sl.none Sl.none 2))) X4.out
  dsimp only at ra wb x4
  refine q0C _ [Cnf.v (Cnf.mk (Stt.mk r0 r1 r2 r3 sM sS epc) (Cnf.buf (Cnf.mk ⟨r0, r1, r2, r3, ⟨mA, mem.length, mC⟩, ⟨sA, stack.length, sC⟩, pc⟩ Sl.none Sl.none 2)) (Cnf.rsb (Cnf.mk ⟨r0, r1, r2, r3, ⟨mA, mem.length, mC⟩, ⟨sA, stack.length, sC⟩, pc⟩ Sl.none Sl.none 2)) (Cnf.fin (Cnf.mk ⟨r0, r1, r2, r3, ⟨mA, mem.length, mC⟩, ⟨sA, stack.length, sC⟩, pc⟩ Sl.none Sl.none 2))), .bool true] Try.results35 (.cons (.cell (cs := Cnf.cs (Cnf.mk (Stt.mk r0 r1 r2 r3 sM sS epc) (Cnf.buf (Cnf.mk ⟨r0, r1, r2, r3, ⟨mA, mem.length, mC⟩, ⟨sA, stack.length, sC⟩, pc⟩ Sl.none Sl.none 2)) (Cnf.rsb (Cnf.mk ⟨r0, r1, r2, r3, ⟨mA, mem.length, mC⟩, ⟨sA, stack.length, sC⟩, pc⟩ Sl.none Sl.none 2)) (Cnf.fin (Cnf.mk ⟨r0, r1, r2, r3, ⟨mA, mem.length, mC⟩, ⟨sA, stack.length, sC⟩, pc⟩ Sl.none Sl.none 2)))) (b := w.heap.size + 1 + 1) (off := 0) rfl rfl (q05 x4) Try.underlying41 rfl (by kernel_rfl)) (.cons (.tmp rfl) .nil)) rfl ?_
  rw [← HF.out]
  have ra := ra.ended
  exact ⟨(Cnf.mk (Stt.mk r0 r1 r2 r3 sM sS epc) (Cnf.buf (Cnf.mk ⟨r0, r1, r2, r3, ⟨mA, mem.length, mC⟩, ⟨sA, stack.length, sC⟩, pc⟩ Sl.none Sl.none 2)) (Cnf.rsb (Cnf.mk ⟨r0, r1, r2, r3, ⟨mA, mem.length, mC⟩, ⟨sA, stack.length, sC⟩, pc⟩ Sl.none Sl.none 2)) (Cnf.fin (Cnf.mk ⟨r0, r1, r2, r3, ⟨mA, mem.length, mC⟩, ⟨sA, stack.length, sC⟩, pc⟩ Sl.none Sl.none 2))), rfl, ⟨⟨rfl, rfl, rfl, rfl, ra.r.xa, ra.r.xb, rfl⟩, ra.xd, ra.r.xc, rfl⟩, ⟨ra.r.ta, ra.r.tb, ra.td, ra.r.tc⟩, wb⟩
 by_cases hk12 : kind = 12
 ·subst hk12
  have hF := HFO.out
  rw [if_pos (.inr rfl)] at hF
  have HF := Kept.mk hF
  clear hF HFO HF1 HF2
  go_upto_region 23 with (fail)
  have RA := Kept.mk (RA.out.row (q0F (j := 9) X3.out (.int .i64 2)) (by decide) (by decide))
  have WB := Kept.mk (WB.out.setCell (p := ⟨w.heap.size + 1, 9, none⟩) (show w.heap.size ≤ w.heap.size + 1 by omega) (.int .i64 2))
  have X4 := Kept.mk (q03 (p := ⟨w.heap.size + 1, 9, none⟩) (u := .int .i64 2) X4.out (by show w.heap.size + 1 ≠ w.heap.size + 1 + 1; omega))
  have X8 := Kept.mk (q03 (p := ⟨w.heap.size + 1, 9, none⟩) (u := .int .i64 2) X8.out (by show w.heap.size + 1 ≠ w4.heap.size; omega))
  have X3 := Kept.mk (heap_setCell_same _ (w.heap.size + 1) 9 _ _ (.int .i64 2) X3.out)
  have RA := Kept.mk (RA.out.row (q0F (j := 7) X3.out (.slice none 0 0)) (by decide) (by decide))
  have WB := Kept.mk (WB.out.setCell (p := ⟨w.heap.size + 1, 7, none⟩) (show w.heap.size ≤ w.heap.size + 1 by omega) (.slice none 0 0))
  have X4 := Kept.mk (q03 (p := ⟨w.heap.size + 1, 7, none⟩) (u := .slice none 0 0) X4.out (by show w.heap.size + 1 ≠ w.heap.size + 1 + 1; omega))
  have X8 := Kept.mk (q03 (p := ⟨w.heap.size + 1, 7, none⟩) (u := .slice none 0 0) X8.out (by show w.heap.size + 1 ≠ w4.heap.size; omega))
  have X3 := Kept.mk (heap_setCell_same _ (w.heap.size + 1) 7 _ _ (.slice none 0 0) X3.out)
  have RA := Kept.mk (RA.out.row (q0F (j := 8) X3.out (.slice none 0 0)) (by decide) (by decide))
  have WB := Kept.mk (WB.out.setCell (p := ⟨w.heap.size + 1, 8, none⟩) (show w.heap.size ≤ w.heap.size + 1 by omega) (.slice none 0 0))
  have X4 := Kept.mk (q03 (p := ⟨w.heap.size + 1, 8, none⟩) (u := .slice none 0 0) X4.out (by show w.heap.size + 1 ≠ w.heap.size + 1 + 1; omega))
  have X8 := Kept.mk (q03 (p := ⟨w.heap.size + 1, 8, none⟩) (u := .slice none 0 0) X8.out (by show w.heap.size + 1 ≠ w4.heap.size; omega))
  have X3 := Kept.mk (heap_setCell_same _ (w.heap.size + 1) 8 _ _ (.slice none 0 0) X3.out)
  have RA := Kept.mk (RA.out.row (q0F (j := 6) X8.out (.int .i64 epc)) (by decide) (by decide))
  have WB := Kept.mk (WB.out.setCell (p := ⟨w4.heap.size, 6, none⟩) (show w.heap.size ≤ w4.heap.size by omega) (.int .i64 epc))
  have X4 := Kept.mk (q03 (p := ⟨w4.heap.size, 6, none⟩) (u := .int .i64 epc) X4.out (by show w4.heap.size ≠ w.heap.size + 1 + 1; omega))
  have X3 := Kept.mk (q03 (p := ⟨w4.heap.size, 6, none⟩) (u := .int .i64 epc) X3.out (by show w4.heap.size ≠ w.heap.size + 1; omega))
  have X8 := Kept.mk (heap_setCell_same _ (w4.heap.size) 6 _ _ (.int .i64 epc) X8.out)
  have SQ : w.heap.size + 3 ≤ ((((w9.setCell ⟨w.heap.size + 1, 9, none⟩ (.int .i64 2)).setCell ⟨w.heap.size + 1, 7, none⟩ (.slice none 0 0)).setCell ⟨w.heap.size + 1, 8, none⟩ (.slice none 0 0)).setCell ⟨w4.heap.size, 6, none⟩ (.int .i64 epc)).heap.size := by have := WB.out.size; first | omega | (simp [World.setCell]; omega)
  have SQ8 : w4.heap.size < ((((w9.setCell ⟨w.heap.size + 1, 9, none⟩ (.int .i64 2)).setCell ⟨w.heap.size + 1, 7, none⟩ (.slice none 0 0)).setCell ⟨w.heap.size + 1, 8, none⟩ (.slice none 0 0)).setCell ⟨w4.heap.size, 6, none⟩ (.int .i64 epc)).heap.size := by first | omega | (simp [World.setCell]; omega)
  clear Y3 Y6 Y7 Y8 F3 F8
  generalize ((((w9.setCell ⟨w.heap.size + 1, 9, none⟩ (.int .i64 2)).setCell ⟨w.heap.size + 1, 7, none⟩ (.slice none 0 0)).setCell ⟨w.heap.size + 1, 8, none⟩ (.slice none 0 0)).setCell ⟨w4.heap.size, 6, none⟩ (.int .i64 epc)) = wq at *
  have X3c : wq.heap[w.heap.size + 1]? = some (.cells (Cnf.cs (Cnf.mk ⟨r0, r1, r2, r3, ⟨mA, mem.length, mC⟩, ⟨sA, stack.length, sC⟩, pc⟩ Sl.none Sl.none 2)).toArray 41 (0, 0)) := X3.out
  have X8c : wq.heap[w4.heap.size]? = some (.cells (Stt.cs (Stt.mk r0 r1 r2 r3 sM sS epc)).toArray 36 (0, 0)) := X8.out
  have Y8 := fun j => cell_of_row wq (w4.heap.size) j _ _ _ X8c
  have Y3 := fun j => cell_of_row wq (w.heap.size + 1) j _ _ _ X3c
  have F3 := fun j => frozen_of_row wq (w.heap.size + 1) j _ _ X3c
  simp only [Cnf.cs, Stt.cs] at Y8 Y3
  have X3 := Kept.mk X3c
  clear X3c X8c X8
  go_upto_region 24 with (fail)
  have x3 := stt_set7 (Cnf.mk ⟨r0, r1, r2, r3, ⟨mA, mem.length, mC⟩, ⟨sA, stack.length, sC⟩, pc⟩ Sl.none Sl.none 2) (Stt.mk r0 r1 r2 r3 sM sS epc) X3.out
  have hg7 := grown7 wq (w.heap.size + 1) (Stt.mk r0 r1 r2 r3 sM sS epc)
  have x4 := (hg7.block (w.heap.size + 1 + 1) (by omega) (by intro h; injection h with h; omega)).trans X4.out
  have ra := RA.out.row ⟨⟨_, X3.out⟩, hg7⟩ (by decide) (by decide)
  have wb := below7 (g := w.heap.size + 1) (Stt.mk r0 r1 r2 r3 sM sS epc) WB.out (by omega)
  have sz := hg7.size
  dsimp only at x3 x4 ra wb sz
  clear X3 X4 RA WB Y8 Y3 F3 hg7
  generalize (((((((wq.setCell ⟨w.heap.size + 1, 0, none⟩ _).setCell ⟨w.heap.size + 1, 1, none⟩ _).setCell ⟨w.heap.size + 1, 2, none⟩ _).setCell ⟨w.heap.size + 1, 3, none⟩ _).setCell ⟨w.heap.size + 1, 4, none⟩ _).setCell ⟨w.heap.size + 1, 5, none⟩ _).setCell ⟨w.heap.size + 1, 6, none⟩ _) = wr at *
  have RA := Kept.mk ra
  have WB := Kept.mk wb
  have X4 := Kept.mk x4
  have Y3 := fun j => cell_of_row wr (w.heap.size + 1) j _ _ _ x3
  have Y4 := fun j => cell_of_row wr (w.heap.size + 1 + 1) j _ _ _ x4
  have F4 := fun j => frozen_of_row wr (w.heap.size + 1 + 1) j _ _ x4
  simp only [Cnf.cs, Cnf.zero, Sl.none] at Y3 Y4
  clear x3 ra wb x4
  go_wp2_with fail
  have ra := RA.out.row ⟨⟨_, X4.out⟩, grown10 _ (w.heap.size + 1 + 1) (Cnf.mk (Stt.mk r0 r1 r2 r3 sM sS epc) (Cnf.buf (Cnf.mk ⟨r0, r1, r2, r3, ⟨mA, mem.length, mC⟩, ⟨sA, stack.length, sC⟩, pc⟩ Sl.none Sl.none 2)) (Cnf.rsb (Cnf.mk ⟨r0, r1, r2, r3, ⟨mA, mem.length, mC⟩, ⟨sA, stack.length, sC⟩, pc⟩ Sl.none Sl.none 2)) (Cnf.fin (Cnf.mk ⟨r0, r1, r2, r3, ⟨mA, mem.length, mC⟩, ⟨sA, stack.length, sC⟩, pc⟩ Sl.none Sl.none 2)))⟩ (by decide) (by decide)
  have wb := below10 (g := w.heap.size + 1 + 1) (Cnf.mk (Stt.mk r0 r1 r2 r3 sM sS epc) (Cnf.buf (Cnf.mk ⟨r0, r1, r2, r3, ⟨mA, mem.length, mC⟩, ⟨sA, stack.length, sC⟩, pc⟩ Sl.none Sl.none 2)) (Cnf.rsb (Cnf.mk ⟨r0, r1, r2, r3, ⟨mA, mem.length, mC⟩, ⟨sA, stack.length, sC⟩, pc⟩ Sl.none Sl.none 2)) (Cnf.fin (Cnf.mk ⟨r0, r1, r2, r3, ⟨mA, mem.length, mC⟩, ⟨sA, stack.length, sC⟩, pc⟩ Sl.none Sl.none 2))) WB.out (by omega)
  have x4 := q11 Cnf.zero (Cnf.mk (Stt.mk r0 r1 r2 r3 sM sS epc) (Cnf.buf (Cnf.mk ⟨r0, r1, r2, r3, ⟨mA, mem.length, mC⟩, ⟨sA, stack.length, sC⟩, pc⟩ Sl.none Sl.none 2)) (Cnf.rsb (Cnf.mk ⟨r0, r1, r2, r3, ⟨mA, mem.length, mC⟩, ⟨sA, stack.length, sC⟩, pc⟩ Sl.none Sl.none 2)) (Cnf.fin (Cnf.mk ⟨r0, r1, r2, r3, ⟨mA, mem.length, mC⟩, ⟨sA, stack.length, sC⟩, pc⟩ Sl.none Sl.none 2))) X4.out
  dsimp only at ra wb x4
  refine q0C _ [Cnf.v (Cnf.mk (Stt.mk r0 r1 r2 r3 sM sS epc) (Cnf.buf (Cnf.mk ⟨r0, r1, r2, r3, ⟨mA, mem.length, mC⟩, ⟨sA, stack.length, sC⟩, pc⟩ Sl.none Sl.none 2)) (Cnf.rsb (Cnf.mk ⟨r0, r1, r2, r3, ⟨mA, mem.length, mC⟩, ⟨sA, stack.length, sC⟩, pc⟩ Sl.none Sl.none 2)) (Cnf.fin (Cnf.mk ⟨r0, r1, r2, r3, ⟨mA, mem.length, mC⟩, ⟨sA, stack.length, sC⟩, pc⟩ Sl.none Sl.none 2))), .bool true] Try.results35 (.cons (.cell (cs := Cnf.cs (Cnf.mk (Stt.mk r0 r1 r2 r3 sM sS epc) (Cnf.buf (Cnf.mk ⟨r0, r1, r2, r3, ⟨mA, mem.length, mC⟩, ⟨sA, stack.length, sC⟩, pc⟩ Sl.none Sl.none 2)) (Cnf.rsb (Cnf.mk ⟨r0, r1, r2, r3, ⟨mA, mem.length, mC⟩, ⟨sA, stack.length, sC⟩, pc⟩ Sl.none Sl.none 2)) (Cnf.fin (Cnf.mk ⟨r0, r1, r2, r3, ⟨mA, mem.length, mC⟩, ⟨sA, stack.length, sC⟩, pc⟩ Sl.none Sl.none 2)))) (b := w.heap.size + 1 + 1) (off := 0) rfl rfl (q05 x4) Try.underlying41 rfl (by kernel_rfl)) (.cons (.tmp rfl) .nil)) rfl ?_
  rw [← HF.out]
  have ra := ra.ended
  exact ⟨(Cnf.mk (Stt.mk r0 r1 r2 r3 sM sS epc) (Cnf.buf (Cnf.mk ⟨r0, r1, r2, r3, ⟨mA, mem.length, mC⟩, ⟨sA, stack.length, sC⟩, pc⟩ Sl.none Sl.none 2)) (Cnf.rsb (Cnf.mk ⟨r0, r1, r2, r3, ⟨mA, mem.length, mC⟩, ⟨sA, stack.length, sC⟩, pc⟩ Sl.none Sl.none 2)) (Cnf.fin (Cnf.mk ⟨r0, r1, r2, r3, ⟨mA, mem.length, mC⟩, ⟨sA, stack.length, sC⟩, pc⟩ Sl.none Sl.none 2))), rfl, ⟨⟨rfl, rfl, rfl, rfl, ra.r.xa, ra.r.xb, rfl⟩, ra.xd, ra.r.xc, rfl⟩, ⟨ra.r.ta, ra.r.tb, ra.td, ra.r.tc⟩, wb⟩
 by_cases hk11 : kind = 11
 ·subst hk11
  have hF := HFO.out
  rw [if_neg (show ¬ (false = true ∨ (11 : Int) = 12) by decide), if_pos rfl] at hF
  have HF := Kept.mk hF
  clear hF HFO HF1 HF2
  go_upto_region 23 with (fail)
  have RA := Kept.mk (RA.out.row (q0F (j := 9) X3.out (.int .i64 1)) (by decide) (by decide))
  have WB := Kept.mk (WB.out.setCell (p := ⟨w.heap.size + 1, 9, none⟩) (show w.heap.size ≤ w.heap.size + 1 by omega) (.int .i64 1))
  have X4 := Kept.mk (q03 (p := ⟨w.heap.size + 1, 9, none⟩) (u := .int .i64 1) X4.out (by show w.heap.size + 1 ≠ w.heap.size + 1 + 1; omega))
  have X8 := Kept.mk (q03 (p := ⟨w.heap.size + 1, 9, none⟩) (u := .int .i64 1) X8.out (by show w.heap.size + 1 ≠ w4.heap.size; omega))
  have X3 := Kept.mk (heap_setCell_same _ (w.heap.size + 1) 9 _ _ (.int .i64 1) X3.out)
  have RA := Kept.mk (RA.out.row (q0F (j := 7) X3.out (.slice none 0 0)) (by decide) (by decide))
  have WB := Kept.mk (WB.out.setCell (p := ⟨w.heap.size + 1, 7, none⟩) (show w.heap.size ≤ w.heap.size + 1 by omega) (.slice none 0 0))
  have X4 := Kept.mk (q03 (p := ⟨w.heap.size + 1, 7, none⟩) (u := .slice none 0 0) X4.out (by show w.heap.size + 1 ≠ w.heap.size + 1 + 1; omega))
  have X8 := Kept.mk (q03 (p := ⟨w.heap.size + 1, 7, none⟩) (u := .slice none 0 0) X8.out (by show w.heap.size + 1 ≠ w4.heap.size; omega))
  have X3 := Kept.mk (heap_setCell_same _ (w.heap.size + 1) 7 _ _ (.slice none 0 0) X3.out)
  have RA := Kept.mk (RA.out.row (q0F (j := 8) X3.out (.slice none 0 0)) (by decide) (by decide))
  have WB := Kept.mk (WB.out.setCell (p := ⟨w.heap.size + 1, 8, none⟩) (show w.heap.size ≤ w.heap.size + 1 by omega) (.slice none 0 0))
  have X4 := Kept.mk (q03 (p := ⟨w.heap.size + 1, 8, none⟩) (u := .slice none 0 0) X4.out (by show w.heap.size + 1 ≠ w.heap.size + 1 + 1; omega))
  have X8 := Kept.mk (q03 (p := ⟨w.heap.size + 1, 8, none⟩) (u := .slice none 0 0) X8.out (by show w.heap.size + 1 ≠ w4.heap.size; omega))
  have X3 := Kept.mk (heap_setCell_same _ (w.heap.size + 1) 8 _ _ (.slice none 0 0) X3.out)
  have RA := Kept.mk (RA.out.row (q0F (j := 6) X8.out (.int .i64 epc)) (by decide) (by decide))
  have WB := Kept.mk (WB.out.setCell (p := ⟨w4.heap.size, 6, none⟩) (show w.heap.size ≤ w4.heap.size by omega) (.int .i64 epc))
  have X4 := Kept.mk (q03 (p := ⟨w4.heap.size, 6, none⟩) (u := .int .i64 epc) X4.out (by show w4.heap.size ≠ w.heap.size + 1 + 1; omega))
  have X3 := Kept.mk (q03 (p := ⟨w4.heap.size, 6, none⟩) (u := .int .i64 epc) X3.out (by show w4.heap.size ≠ w.heap.size + 1; omega))
  have X8 := Kept.mk (heap_setCell_same _ (w4.heap.size) 6 _ _ (.int .i64 epc) X8.out)
  have SQ : w.heap.size + 3 ≤ ((((w9.setCell ⟨w.heap.size + 1, 9, none⟩ (.int .i64 1)).setCell ⟨w.heap.size + 1, 7, none⟩ (.slice none 0 0)).setCell ⟨w.heap.size + 1, 8, none⟩ (.slice none 0 0)).setCell ⟨w4.heap.size, 6, none⟩ (.int .i64 epc)).heap.size := by have := WB.out.size; first | omega | (simp [World.setCell]; omega)
  have SQ8 : w4.heap.size < ((((w9.setCell ⟨w.heap.size + 1, 9, none⟩ (.int .i64 1)).setCell ⟨w.heap.size + 1, 7, none⟩ (.slice none 0 0)).setCell ⟨w.heap.size + 1, 8, none⟩ (.slice none 0 0)).setCell ⟨w4.heap.size, 6, none⟩ (.int .i64 epc)).heap.size := by first | omega | (simp [World.setCell]; omega)
  clear Y3 Y6 Y7 Y8 F3 F8
  generalize ((((w9.setCell ⟨w.heap.size + 1, 9, none⟩ (.int .i64 1)).setCell ⟨w.heap.size + 1, 7, none⟩ (.slice none 0 0)).setCell ⟨w.heap.size + 1, 8, none⟩ (.slice none 0 0)).setCell ⟨w4.heap.size, 6, none⟩ (.int .i64 epc)) = wq at *
  have X3c : wq.heap[w.heap.size + 1]? = some (.cells (Cnf.cs (Cnf.mk ⟨r0, r1, r2, r3, ⟨mA, mem.length, mC⟩, ⟨sA, stack.length, sC⟩, pc⟩ Sl.none Sl.none 1)).toArray 41 (0, 0)) := X3.out
  have X8c : wq.heap[w4.heap.size]? = some (.cells (Stt.cs (Stt.mk r0 r1 r2 r3 sM sS epc)).toArray 36 (0, 0)) := X8.out
  have Y8 := fun j => cell_of_row wq (w4.heap.size) j _ _ _ X8c
  have Y3 := fun j => cell_of_row wq (w.heap.size + 1) j _ _ _ X3c
  have F3 := fun j => frozen_of_row wq (w.heap.size + 1) j _ _ X3c
  simp only [Cnf.cs, Stt.cs] at Y8 Y3
  have X3 := Kept.mk X3c
  clear X3c X8c X8
  go_upto_region 24 with (fail)
  have x3 := stt_set7 (Cnf.mk ⟨r0, r1, r2, r3, ⟨mA, mem.length, mC⟩, ⟨sA, stack.length, sC⟩, pc⟩ Sl.none Sl.none 1) (Stt.mk r0 r1 r2 r3 sM sS epc) X3.out
  have hg7 := grown7 wq (w.heap.size + 1) (Stt.mk r0 r1 r2 r3 sM sS epc)
  have x4 := (hg7.block (w.heap.size + 1 + 1) (by omega) (by intro h; injection h with h; omega)).trans X4.out
  have ra := RA.out.row ⟨⟨_, X3.out⟩, hg7⟩ (by decide) (by decide)
  have wb := below7 (g := w.heap.size + 1) (Stt.mk r0 r1 r2 r3 sM sS epc) WB.out (by omega)
  have sz := hg7.size
  dsimp only at x3 x4 ra wb sz
  clear X3 X4 RA WB Y8 Y3 F3 hg7
  generalize (((((((wq.setCell ⟨w.heap.size + 1, 0, none⟩ _).setCell ⟨w.heap.size + 1, 1, none⟩ _).setCell ⟨w.heap.size + 1, 2, none⟩ _).setCell ⟨w.heap.size + 1, 3, none⟩ _).setCell ⟨w.heap.size + 1, 4, none⟩ _).setCell ⟨w.heap.size + 1, 5, none⟩ _).setCell ⟨w.heap.size + 1, 6, none⟩ _) = wr at *
  have RA := Kept.mk ra
  have WB := Kept.mk wb
  have X4 := Kept.mk x4
  have Y3 := fun j => cell_of_row wr (w.heap.size + 1) j _ _ _ x3
  have Y4 := fun j => cell_of_row wr (w.heap.size + 1 + 1) j _ _ _ x4
  have F4 := fun j => frozen_of_row wr (w.heap.size + 1 + 1) j _ _ x4
  simp only [Cnf.cs, Cnf.zero, Sl.none] at Y3 Y4
  clear x3 ra wb x4
  go_wp2_with fail
  have ra := RA.out.row ⟨⟨_, X4.out⟩, grown10 _ (w.heap.size + 1 + 1) (Cnf.mk (Stt.mk r0 r1 r2 r3 sM sS epc) (Cnf.buf (Cnf.mk ⟨r0, r1, r2, r3, ⟨mA, mem.length, mC⟩, ⟨sA, stack.length, sC⟩, pc⟩ Sl.none Sl.none 1)) (Cnf.rsb (Cnf.mk ⟨r0, r1, r2, r3, ⟨mA, mem.length, mC⟩, ⟨sA, stack.length, sC⟩, pc⟩ Sl.none Sl.none 1)) (Cnf.fin (Cnf.mk ⟨r0, r1, r2, r3, ⟨mA, mem.length, mC⟩, ⟨sA, stack.length, sC⟩, pc⟩ Sl.none Sl.none 1)))⟩ (by decide) (by decide)
  have wb := below10 (g := w.heap.size + 1 + 1) (Cnf.mk (Stt.mk r0 r1 r2 r3 sM sS epc) (Cnf.buf (Cnf.mk ⟨r0, r1, r2, r3, ⟨mA, mem.length, mC⟩, ⟨sA, stack.length, sC⟩, pc⟩ Sl.none Sl.none 1)) (Cnf.rsb (Cnf.mk ⟨r0, r1, r2, r3, ⟨mA, mem.length, mC⟩, ⟨sA, stack.length, sC⟩, pc⟩ Sl.none Sl.none 1)) (Cnf.fin (Cnf.mk ⟨r0, r1, r2, r3, ⟨mA, mem.length, mC⟩, ⟨sA, stack.length, sC⟩, pc⟩ Sl.none Sl.none 1))) WB.out (by omega)
  have x4 := q11 Cnf.zero (Cnf.mk (Stt.mk r0 r1 r2 r3 sM sS epc) (Cnf.buf (Cnf.mk ⟨r0, r1, r2, r3, ⟨mA, mem.length, mC⟩, ⟨sA, stack.length, sC⟩, pc⟩ Sl.none Sl.none 1)) (Cnf.rsb (Cnf.mk ⟨r0, r1, r2, r3, ⟨mA, mem.length, mC⟩, ⟨sA, stack.length, sC⟩, pc⟩ Sl.none Sl.none 1)) (Cnf.fin (Cnf.mk ⟨r0, r1, r2, r3, ⟨mA, mem.length, mC⟩, ⟨sA, stack.length, sC⟩, pc⟩ Sl.none Sl.none 1))) X4.out
  dsimp only at ra wb x4
  refine q0C _ [Cnf.v (Cnf.mk (Stt.mk r0 r1 r2 r3 sM sS epc) (Cnf.buf (Cnf.mk ⟨r0, r1, r2, r3, ⟨mA, mem.length, mC⟩, ⟨sA, stack.length, sC⟩, pc⟩ Sl.none Sl.none 1)) (Cnf.rsb (Cnf.mk ⟨r0, r1, r2, r3, ⟨mA, mem.length, mC⟩, ⟨sA, stack.length, sC⟩, pc⟩ Sl.none Sl.none 1)) (Cnf.fin (Cnf.mk ⟨r0, r1, r2, r3, ⟨mA, mem.length, mC⟩, ⟨sA, stack.length, sC⟩, pc⟩ Sl.none Sl.none 1))), .bool true] Try.results35 (.cons (.cell (cs := Cnf.cs (Cnf.mk (Stt.mk r0 r1 r2 r3 sM sS epc) (Cnf.buf (Cnf.mk ⟨r0, r1, r2, r3, ⟨mA, mem.length, mC⟩, ⟨sA, stack.length, sC⟩, pc⟩ Sl.none Sl.none 1)) (Cnf.rsb (Cnf.mk ⟨r0, r1, r2, r3, ⟨mA, mem.length, mC⟩, ⟨sA, stack.length, sC⟩, pc⟩ Sl.none Sl.none 1)) (Cnf.fin (Cnf.mk ⟨r0, r1, r2, r3, ⟨mA, mem.length, mC⟩, ⟨sA, stack.length, sC⟩, pc⟩ Sl.none Sl.none 1)))) (b := w.heap.size + 1 + 1) (off := 0) rfl rfl (q05 x4) Try.underlying41 rfl (by kernel_rfl)) (.cons (.tmp rfl) .nil)) rfl ?_
  rw [← HF.out]
  have ra := ra.ended
  exact ⟨(Cnf.mk (Stt.mk r0 r1 r2 r3 sM sS epc) (Cnf.buf (Cnf.mk ⟨r0, r1, r2, r3, ⟨mA, mem.length, mC⟩, ⟨sA, stack.length, sC⟩, pc⟩ Sl.none Sl.none 1)) (Cnf.rsb (Cnf.mk ⟨r0, r1, r2, r3, ⟨mA, mem.length, mC⟩, ⟨sA, stack.length, sC⟩, pc⟩ Sl.none Sl.none 1)) (Cnf.fin (Cnf.mk ⟨r0, r1, r2, r3, ⟨mA, mem.length, mC⟩, ⟨sA, stack.length, sC⟩, pc⟩ Sl.none Sl.none 1))), rfl, ⟨⟨rfl, rfl, rfl, rfl, ra.r.xa, ra.r.xb, rfl⟩, ra.xd, ra.r.xc, rfl⟩, ⟨ra.r.ta, ra.r.tb, ra.td, ra.r.tc⟩, wb⟩
 by_cases hk1 : kind = 1
 ·subst hk1
  have hF := HFO.out
  rw [if_neg (show ¬ (false = true ∨ (1 : Int) = 12) by decide), if_neg (show ¬ (1 : Int) = 11 by decide), if_pos (by decide)] at hF
  obtain ⟨hd0, hd1⟩ := HD.out
  have hbt : bits BinOp.and IntKind.i64 xd 3 = xd := by
   rcases (show xd = 0 ∨ xd = 1 ∨ xd = 2 ∨ xd = 3 by omega) with rfl | rfl | rfl | rfl <;> kernel_rfl
  obtain ⟨kd, rfl⟩ : ∃ kd : Nat, xd = (kd : Int) := ⟨xd.toNat, by omega⟩
  have hkd : kd < 4 := by omega
  obtain ⟨a0, a1, a2, a3, hx8, ea⟩ : ∃ a0 a1 a2 a3, (w9.setCell ⟨w4.heap.size, kd, none⟩ (.int .i64 ev)).heap[w4.heap.size]? = some (.cells (Stt.cs ⟨a0, a1, a2, a3, sM, sS, pc⟩).toArray 36 (0, 0)) ∧ setReg ⟨r0, r1, r2, r3, mem, stack, pc⟩ (kd : Int) ev = ⟨a0, a1, a2, a3, mem, stack, pc⟩ := by
   have h := heap_setCell_same w9 w4.heap.size kd _ _ (.int .i64 ev) X8.out
   rcases (show kd = 0 ∨ kd = 1 ∨ kd = 2 ∨ kd = 3 by omega) with rfl | rfl | rfl | rfl
   ·exact ⟨ev, r1, r2, r3, h, rfl⟩
   ·exact ⟨r0, ev, r2, r3, h, rfl⟩
   ·exact ⟨r0, r1, ev, r3, h, rfl⟩
   ·exact ⟨r0, r1, r2, ev, h, rfl⟩
  rw [ea] at hF
  obtain ⟨u0, hu0⟩ : ∃ u0 : Value, [Value.int .i64 r0, Value.int .i64 r1, Value.int .i64 r2, Value.int .i64 r3, Value.slice sM.A sM.n sM.c, Value.slice sS.A sS.n sS.c, Value.int .i64 pc][kd]? = some u0 := by
   rcases (show kd = 0 ∨ kd = 1 ∨ kd = 2 ∨ kd = 3 by omega) with rfl | rfl | rfl | rfl <;> exact ⟨_, rfl⟩
  have HF := Kept.mk hF
  have HX8 := Kept.mk hx8
  clear hF HFO HF1 HF2 HD ea hx8
  go_upto_region 23 with (fail)
  have RA := Kept.mk (RA.out.row (q0F (j := kd) X8.out (.int .i64 ev)) (by decide) (by decide))
  have WB := Kept.mk (WB.out.setCell (p := ⟨w4.heap.size, kd, none⟩) (show w.heap.size ≤ w4.heap.size by omega) (.int .i64 ev))
  have X4 := Kept.mk (q03 (p := ⟨w4.heap.size, kd, none⟩) (u := .int .i64 ev) X4.out (by show w4.heap.size ≠ w.heap.size + 1 + 1; omega))
  have X3 := Kept.mk (q03 (p := ⟨w4.heap.size, kd, none⟩) (u := .int .i64 ev) X3.out (by show w4.heap.size ≠ w.heap.size + 1; omega))
  have X8 := Kept.mk (heap_setCell_same _ (w4.heap.size) kd _ _ (.int .i64 ev) X8.out)
  have SQ : w.heap.size + 3 ≤ (w9.setCell ⟨w4.heap.size, kd, none⟩ (.int .i64 ev)).heap.size := by have := WB.out.size; first | omega | (simp [World.setCell]; omega)
  have SQ8 : w4.heap.size < (w9.setCell ⟨w4.heap.size, kd, none⟩ (.int .i64 ev)).heap.size := by first | omega | (simp [World.setCell]; omega)
  clear Y3 Y6 Y7 Y8 F3 F8
  generalize (w9.setCell ⟨w4.heap.size, kd, none⟩ (.int .i64 ev)) = wq at *
  have X8 := HX8
  clear HX8
  have X3c : wq.heap[w.heap.size + 1]? = some (.cells (Cnf.cs (Cnf.mk ⟨r0, r1, r2, r3, ⟨mA, mem.length, mC⟩, ⟨sA, stack.length, sC⟩, pc⟩ ⟨A3, pb.length, c3⟩ ⟨qA, rsb.length, qC⟩ 0)).toArray 41 (0, 0)) := X3.out
  have X8c : wq.heap[w4.heap.size]? = some (.cells (Stt.cs (Stt.mk a0 a1 a2 a3 sM sS pc)).toArray 36 (0, 0)) := X8.out
  have Y8 := fun j => cell_of_row wq (w4.heap.size) j _ _ _ X8c
  have Y3 := fun j => cell_of_row wq (w.heap.size + 1) j _ _ _ X3c
  have F3 := fun j => frozen_of_row wq (w.heap.size + 1) j _ _ X3c
  simp only [Cnf.cs, Stt.cs] at Y8 Y3
  have X3 := Kept.mk X3c
  clear X3c X8c X8
  go_upto_region 24 with (fail)
  have x3 := stt_set7 (Cnf.mk ⟨r0, r1, r2, r3, ⟨mA, mem.length, mC⟩, ⟨sA, stack.length, sC⟩, pc⟩ ⟨A3, pb.length, c3⟩ ⟨qA, rsb.length, qC⟩ 0) (Stt.mk a0 a1 a2 a3 sM sS pc) X3.out
  have hg7 := grown7 wq (w.heap.size + 1) (Stt.mk a0 a1 a2 a3 sM sS pc)
  have x4 := (hg7.block (w.heap.size + 1 + 1) (by omega) (by intro h; injection h with h; omega)).trans X4.out
  have ra := RA.out.row ⟨⟨_, X3.out⟩, hg7⟩ (by decide) (by decide)
  have wb := below7 (g := w.heap.size + 1) (Stt.mk a0 a1 a2 a3 sM sS pc) WB.out (by omega)
  have sz := hg7.size
  dsimp only at x3 x4 ra wb sz
  clear X3 X4 RA WB Y8 Y3 F3 hg7
  generalize (((((((wq.setCell ⟨w.heap.size + 1, 0, none⟩ _).setCell ⟨w.heap.size + 1, 1, none⟩ _).setCell ⟨w.heap.size + 1, 2, none⟩ _).setCell ⟨w.heap.size + 1, 3, none⟩ _).setCell ⟨w.heap.size + 1, 4, none⟩ _).setCell ⟨w.heap.size + 1, 5, none⟩ _).setCell ⟨w.heap.size + 1, 6, none⟩ _) = wr at *
  have RA := Kept.mk ra
  have WB := Kept.mk wb
  have X4 := Kept.mk x4
  have Y3 := fun j => cell_of_row wr (w.heap.size + 1) j _ _ _ x3
  have Y4 := fun j => cell_of_row wr (w.heap.size + 1 + 1) j _ _ _ x4
  have F4 := fun j => frozen_of_row wr (w.heap.size + 1 + 1) j _ _ x4
  simp only [Cnf.cs, Cnf.zero, Sl.none] at Y3 Y4
  clear x3 ra wb x4
  go_wp2_with fail
  have ra := RA.out.row ⟨⟨_, X4.out⟩, grown10 _ (w.heap.size + 1 + 1) (Cnf.mk (Stt.mk a0 a1 a2 a3 sM sS pc) (Cnf.buf (Cnf.mk ⟨r0, r1, r2, r3, ⟨mA, mem.length, mC⟩, ⟨sA, stack.length, sC⟩, pc⟩ ⟨A3, pb.length, c3⟩ ⟨qA, rsb.length, qC⟩ 0)) (Cnf.rsb (Cnf.mk ⟨r0, r1, r2, r3, ⟨mA, mem.length, mC⟩, ⟨sA, stack.length, sC⟩, pc⟩ ⟨A3, pb.length, c3⟩ ⟨qA, rsb.length, qC⟩ 0)) (Cnf.fin (Cnf.mk ⟨r0, r1, r2, r3, ⟨mA, mem.length, mC⟩, ⟨sA, stack.length, sC⟩, pc⟩ ⟨A3, pb.length, c3⟩ ⟨qA, rsb.length, qC⟩ 0)))⟩ (by decide) (by decide)
  have wb := below10 (g := w.heap.size + 1 + 1) (Cnf.mk (Stt.mk a0 a1 a2 a3 sM sS pc) (Cnf.buf (Cnf.mk ⟨r0, r1, r2, r3, ⟨mA, mem.length, mC⟩, ⟨sA, stack.length, sC⟩, pc⟩ ⟨A3, pb.length, c3⟩ ⟨qA, rsb.length, qC⟩ 0)) (Cnf.rsb (Cnf.mk ⟨r0, r1, r2, r3, ⟨mA, mem.length, mC⟩, ⟨sA, stack.length, sC⟩, pc⟩ ⟨A3, pb.length, c3⟩ ⟨qA, rsb.length, qC⟩ 0)) (Cnf.fin (Cnf.mk ⟨r0, r1, r2, r3, ⟨mA, mem.length, mC⟩, ⟨sA, stack.length, sC⟩, pc⟩ ⟨A3, pb.length, c3⟩ ⟨qA, rsb.length, qC⟩ 0))) WB.out (by omega)
  have x4 := q11 Cnf.zero (Cnf.mk (Stt.mk a0 a1 a2 a3 sM sS pc) (Cnf.buf (Cnf.mk ⟨r0, r1, r2, r3, ⟨mA, mem.length, mC⟩, ⟨sA, stack.length, sC⟩, pc⟩ ⟨A3, pb.length, c3⟩ ⟨qA, rsb.length, qC⟩ 0)) (Cnf.rsb (Cnf.mk ⟨r0, r1, r2, r3, ⟨mA, mem.length, mC⟩, ⟨sA, stack.length, sC⟩, pc⟩ ⟨A3, pb.length, c3⟩ ⟨qA, rsb.length, qC⟩ 0)) (Cnf.fin (Cnf.mk ⟨r0, r1, r2, r3, ⟨mA, mem.length, mC⟩, ⟨sA, stack.length, sC⟩, pc⟩ ⟨A3, pb.length, c3⟩ ⟨qA, rsb.length, qC⟩ 0))) X4.out
  dsimp only at ra wb x4
  refine q0C _ [Cnf.v (Cnf.mk (Stt.mk a0 a1 a2 a3 sM sS pc) (Cnf.buf (Cnf.mk ⟨r0, r1, r2, r3, ⟨mA, mem.length, mC⟩, ⟨sA, stack.length, sC⟩, pc⟩ ⟨A3, pb.length, c3⟩ ⟨qA, rsb.length, qC⟩ 0)) (Cnf.rsb (Cnf.mk ⟨r0, r1, r2, r3, ⟨mA, mem.length, mC⟩, ⟨sA, stack.length, sC⟩, pc⟩ ⟨A3, pb.length, c3⟩ ⟨qA, rsb.length, qC⟩ 0)) (Cnf.fin (Cnf.mk ⟨r0, r1, r2, r3, ⟨mA, mem.length, mC⟩, ⟨sA, stack.length, sC⟩, pc⟩ ⟨A3, pb.length, c3⟩ ⟨qA, rsb.length, qC⟩ 0))), .bool true] Try.results35 (.cons (.cell (cs := Cnf.cs (Cnf.mk (Stt.mk a0 a1 a2 a3 sM sS pc) (Cnf.buf (Cnf.mk ⟨r0, r1, r2, r3, ⟨mA, mem.length, mC⟩, ⟨sA, stack.length, sC⟩, pc⟩ ⟨A3, pb.length, c3⟩ ⟨qA, rsb.length, qC⟩ 0)) (Cnf.rsb (Cnf.mk ⟨r0, r1, r2, r3, ⟨mA, mem.length, mC⟩, ⟨sA, stack.length, sC⟩, pc⟩ ⟨A3, pb.length, c3⟩ ⟨qA, rsb.length, qC⟩ 0)) (Cnf.fin (Cnf.mk ⟨r0, r1, r2, r3, ⟨mA, mem.length, mC⟩, ⟨sA, stack.length, sC⟩, pc⟩ ⟨A3, pb.length, c3⟩ ⟨qA, rsb.length, qC⟩ 0)))) (b := w.heap.size + 1 + 1) (off := 0) rfl rfl (q05 x4) Try.underlying41 rfl (by kernel_rfl)) (.cons (.tmp rfl) .nil)) rfl ?_
  rw [← HF.out]
  have ra := ra
  exact ⟨(Cnf.mk (Stt.mk a0 a1 a2 a3 sM sS pc) (Cnf.buf (Cnf.mk ⟨r0, r1, r2, r3, ⟨mA, mem.length, mC⟩, ⟨sA, stack.length, sC⟩, pc⟩ ⟨A3, pb.length, c3⟩ ⟨qA, rsb.length, qC⟩ 0)) (Cnf.rsb (Cnf.mk ⟨r0, r1, r2, r3, ⟨mA, mem.length, mC⟩, ⟨sA, stack.length, sC⟩, pc⟩ ⟨A3, pb.length, c3⟩ ⟨qA, rsb.length, qC⟩ 0)) (Cnf.fin (Cnf.mk ⟨r0, r1, r2, r3, ⟨mA, mem.length, mC⟩, ⟨sA, stack.length, sC⟩, pc⟩ ⟨A3, pb.length, c3⟩ ⟨qA, rsb.length, qC⟩ 0))), rfl, ⟨⟨rfl, rfl, rfl, rfl, ra.r.xa, ra.r.xb, rfl⟩, ra.xd, ra.r.xc, rfl⟩, ⟨ra.r.ta, ra.r.tb, ra.td, ra.r.tc⟩, wb⟩
 by_cases hk2 : kind = 2
 ·subst hk2
  have hF := HFO.out
  rw [if_neg (show ¬ (false = true ∨ (2 : Int) = 12) by decide), if_neg (show ¬ (2 : Int) = 11 by decide), if_pos (by decide)] at hF
  obtain ⟨hd0, hd1⟩ := HD.out
  have hbt : bits BinOp.and IntKind.i64 xd 3 = xd := by
   rcases (show xd = 0 ∨ xd = 1 ∨ xd = 2 ∨ xd = 3 by omega) with rfl | rfl | rfl | rfl <;> kernel_rfl
  obtain ⟨kd, rfl⟩ : ∃ kd : Nat, xd = (kd : Int) := ⟨xd.toNat, by omega⟩
  have hkd : kd < 4 := by omega
  obtain ⟨a0, a1, a2, a3, hx8, ea⟩ : ∃ a0 a1 a2 a3, (w9.setCell ⟨w4.heap.size, kd, none⟩ (.int .i64 ev)).heap[w4.heap.size]? = some (.cells (Stt.cs ⟨a0, a1, a2, a3, sM, sS, pc⟩).toArray 36 (0, 0)) ∧ setReg ⟨r0, r1, r2, r3, mem, stack, pc⟩ (kd : Int) ev = ⟨a0, a1, a2, a3, mem, stack, pc⟩ := by
   have h := heap_setCell_same w9 w4.heap.size kd _ _ (.int .i64 ev) X8.out
   rcases (show kd = 0 ∨ kd = 1 ∨ kd = 2 ∨ kd = 3 by omega) with rfl | rfl | rfl | rfl
   ·exact ⟨ev, r1, r2, r3, h, rfl⟩
   ·exact ⟨r0, ev, r2, r3, h, rfl⟩
   ·exact ⟨r0, r1, ev, r3, h, rfl⟩
   ·exact ⟨r0, r1, r2, ev, h, rfl⟩
  rw [ea] at hF
  obtain ⟨u0, hu0⟩ : ∃ u0 : Value, [Value.int .i64 r0, Value.int .i64 r1, Value.int .i64 r2, Value.int .i64 r3, Value.slice sM.A sM.n sM.c, Value.slice sS.A sS.n sS.c, Value.int .i64 pc][kd]? = some u0 := by
   rcases (show kd = 0 ∨ kd = 1 ∨ kd = 2 ∨ kd = 3 by omega) with rfl | rfl | rfl | rfl <;> exact ⟨_, rfl⟩
  have HF := Kept.mk hF
  have HX8 := Kept.mk hx8
  clear hF HFO HF1 HF2 HD ea hx8
  go_upto_region 23 with (fail)
  have RA := Kept.mk (RA.out.row (q0F (j := kd) X8.out (.int .i64 ev)) (by decide) (by decide))
  have WB := Kept.mk (WB.out.setCell (p := ⟨w4.heap.size, kd, none⟩) (show w.heap.size ≤ w4.heap.size by omega) (.int .i64 ev))
  have X4 := Kept.mk (q03 (p := ⟨w4.heap.size, kd, none⟩) (u := .int .i64 ev) X4.out (by show w4.heap.size ≠ w.heap.size + 1 + 1; omega))
  have X3 := Kept.mk (q03 (p := ⟨w4.heap.size, kd, none⟩) (u := .int .i64 ev) X3.out (by show w4.heap.size ≠ w.heap.size + 1; omega))
  have X8 := Kept.mk (heap_setCell_same _ (w4.heap.size) kd _ _ (.int .i64 ev) X8.out)
  have SQ : w.heap.size + 3 ≤ (w9.setCell ⟨w4.heap.size, kd, none⟩ (.int .i64 ev)).heap.size := by have := WB.out.size; first | omega | (simp [World.setCell]; omega)
  have SQ8 : w4.heap.size < (w9.setCell ⟨w4.heap.size, kd, none⟩ (.int .i64 ev)).heap.size := by first | omega | (simp [World.setCell]; omega)
  clear Y3 Y6 Y7 Y8 F3 F8
  generalize (w9.setCell ⟨w4.heap.size, kd, none⟩ (.int .i64 ev)) = wq at *
  have X8 := HX8
  clear HX8
  have X3c : wq.heap[w.heap.size + 1]? = some (.cells (Cnf.cs (Cnf.mk ⟨r0, r1, r2, r3, ⟨mA, mem.length, mC⟩, ⟨sA, stack.length, sC⟩, pc⟩ ⟨A3, pb.length, c3⟩ ⟨qA, rsb.length, qC⟩ 0)).toArray 41 (0, 0)) := X3.out
  have X8c : wq.heap[w4.heap.size]? = some (.cells (Stt.cs (Stt.mk a0 a1 a2 a3 sM sS pc)).toArray 36 (0, 0)) := X8.out
  have Y8 := fun j => cell_of_row wq (w4.heap.size) j _ _ _ X8c
  have Y3 := fun j => cell_of_row wq (w.heap.size + 1) j _ _ _ X3c
  have F3 := fun j => frozen_of_row wq (w.heap.size + 1) j _ _ X3c
  simp only [Cnf.cs, Stt.cs] at Y8 Y3
  have X3 := Kept.mk X3c
  clear X3c X8c X8
  go_upto_region 24 with (fail)
  have x3 := stt_set7 (Cnf.mk ⟨r0, r1, r2, r3, ⟨mA, mem.length, mC⟩, ⟨sA, stack.length, sC⟩, pc⟩ ⟨A3, pb.length, c3⟩ ⟨qA, rsb.length, qC⟩ 0) (Stt.mk a0 a1 a2 a3 sM sS pc) X3.out
  have hg7 := grown7 wq (w.heap.size + 1) (Stt.mk a0 a1 a2 a3 sM sS pc)
  have x4 := (hg7.block (w.heap.size + 1 + 1) (by omega) (by intro h; injection h with h; omega)).trans X4.out
  have ra := RA.out.row ⟨⟨_, X3.out⟩, hg7⟩ (by decide) (by decide)
  have wb := below7 (g := w.heap.size + 1) (Stt.mk a0 a1 a2 a3 sM sS pc) WB.out (by omega)
  have sz := hg7.size
  dsimp only at x3 x4 ra wb sz
  clear X3 X4 RA WB Y8 Y3 F3 hg7
  generalize (((((((wq.setCell ⟨w.heap.size + 1, 0, none⟩ _).setCell ⟨w.heap.size + 1, 1, none⟩ _).setCell ⟨w.heap.size + 1, 2, none⟩ _).setCell ⟨w.heap.size + 1, 3, none⟩ _).setCell ⟨w.heap.size + 1, 4, none⟩ _).setCell ⟨w.heap.size + 1, 5, none⟩ _).setCell ⟨w.heap.size + 1, 6, none⟩ _) = wr at *
  have RA := Kept.mk ra
  have WB := Kept.mk wb
  have X4 := Kept.mk x4
  have Y3 := fun j => cell_of_row wr (w.heap.size + 1) j _ _ _ x3
  have Y4 := fun j => cell_of_row wr (w.heap.size + 1 + 1) j _ _ _ x4
  have F4 := fun j => frozen_of_row wr (w.heap.size + 1 + 1) j _ _ x4
  simp only [Cnf.cs, Cnf.zero, Sl.none] at Y3 Y4
  clear x3 ra wb x4
  go_wp2_with fail
  have ra := RA.out.row ⟨⟨_, X4.out⟩, grown10 _ (w.heap.size + 1 + 1) (Cnf.mk (Stt.mk a0 a1 a2 a3 sM sS pc) (Cnf.buf (Cnf.mk ⟨r0, r1, r2, r3, ⟨mA, mem.length, mC⟩, ⟨sA, stack.length, sC⟩, pc⟩ ⟨A3, pb.length, c3⟩ ⟨qA, rsb.length, qC⟩ 0)) (Cnf.rsb (Cnf.mk ⟨r0, r1, r2, r3, ⟨mA, mem.length, mC⟩, ⟨sA, stack.length, sC⟩, pc⟩ ⟨A3, pb.length, c3⟩ ⟨qA, rsb.length, qC⟩ 0)) (Cnf.fin (Cnf.mk ⟨r0, r1, r2, r3, ⟨mA, mem.length, mC⟩, ⟨sA, stack.length, sC⟩, pc⟩ ⟨A3, pb.length, c3⟩ ⟨qA, rsb.length, qC⟩ 0)))⟩ (by decide) (by decide)
  have wb := below10 (g := w.heap.size + 1 + 1) (Cnf.mk (Stt.mk a0 a1 a2 a3 sM sS pc) (Cnf.buf (Cnf.mk ⟨r0, r1, r2, r3, ⟨mA, mem.length, mC⟩, ⟨sA, stack.length, sC⟩, pc⟩ ⟨A3, pb.length, c3⟩ ⟨qA, rsb.length, qC⟩ 0)) (Cnf.rsb (Cnf.mk ⟨r0, r1, r2, r3, ⟨mA, mem.length, mC⟩, ⟨sA, stack.length, sC⟩, pc⟩ ⟨A3, pb.length, c3⟩ ⟨qA, rsb.length, qC⟩ 0)) (Cnf.fin (Cnf.mk ⟨r0, r1, r2, r3, ⟨mA, mem.length, mC⟩, ⟨sA, stack.length, sC⟩, pc⟩ ⟨A3, pb.length, c3⟩ ⟨qA, rsb.length, qC⟩ 0))) WB.out (by omega)
  have x4 := q11 Cnf.zero (Cnf.mk (Stt.mk a0 a1 a2 a3 sM sS pc) (Cnf.buf (Cnf.mk ⟨r0, r1, r2, r3, ⟨mA, mem.length, mC⟩, ⟨sA, stack.length, sC⟩, pc⟩ ⟨A3, pb.length, c3⟩ ⟨qA, rsb.length, qC⟩ 0)) (Cnf.rsb (Cnf.mk ⟨r0, r1, r2, r3, ⟨mA, mem.length, mC⟩, ⟨sA, stack.length, sC⟩, pc⟩ ⟨A3, pb.length, c3⟩ ⟨qA, rsb.length, qC⟩ 0)) (Cnf.fin (Cnf.mk ⟨r0, r1, r2, r3, ⟨mA, mem.length, mC⟩, ⟨sA, stack.length, sC⟩, pc⟩ ⟨A3, pb.length, c3⟩ ⟨qA, rsb.length, qC⟩ 0))) X4.out
  dsimp only at ra wb x4
  refine q0C _ [Cnf.v (Cnf.mk (Stt.mk a0 a1 a2 a3 sM sS pc) (Cnf.buf (Cnf.mk ⟨r0, r1, r2, r3, ⟨mA, mem.length, mC⟩, ⟨sA, stack.length, sC⟩, pc⟩ ⟨A3, pb.length, c3⟩ ⟨qA, rsb.length, qC⟩ 0)) (Cnf.rsb (Cnf.mk ⟨r0, r1, r2, r3, ⟨mA, mem.length, mC⟩, ⟨sA, stack.length, sC⟩, pc⟩ ⟨A3, pb.length, c3⟩ ⟨qA, rsb.length, qC⟩ 0)) (Cnf.fin (Cnf.mk ⟨r0, r1, r2, r3, ⟨mA, mem.length, mC⟩, ⟨sA, stack.length, sC⟩, pc⟩ ⟨A3, pb.length, c3⟩ ⟨qA, rsb.length, qC⟩ 0))), .bool true] Try.results35 (.cons (.cell (cs := Cnf.cs (Cnf.mk (Stt.mk a0 a1 a2 a3 sM sS pc) (Cnf.buf (Cnf.mk ⟨r0, r1, r2, r3, ⟨mA, mem.length, mC⟩, ⟨sA, stack.length, sC⟩, pc⟩ ⟨A3, pb.length, c3⟩ ⟨qA, rsb.length, qC⟩ 0)) (Cnf.rsb (Cnf.mk ⟨r0, r1, r2, r3, ⟨mA, mem.length, mC⟩, ⟨sA, stack.length, sC⟩, pc⟩ ⟨A3, pb.length, c3⟩ ⟨qA, rsb.length, qC⟩ 0)) (Cnf.fin (Cnf.mk ⟨r0, r1, r2, r3, ⟨mA, mem.length, mC⟩, ⟨sA, stack.length, sC⟩, pc⟩ ⟨A3, pb.length, c3⟩ ⟨qA, rsb.length, qC⟩ 0)))) (b := w.heap.size + 1 + 1) (off := 0) rfl rfl (q05 x4) Try.underlying41 rfl (by kernel_rfl)) (.cons (.tmp rfl) .nil)) rfl ?_
  rw [← HF.out]
  have ra := ra
  exact ⟨(Cnf.mk (Stt.mk a0 a1 a2 a3 sM sS pc) (Cnf.buf (Cnf.mk ⟨r0, r1, r2, r3, ⟨mA, mem.length, mC⟩, ⟨sA, stack.length, sC⟩, pc⟩ ⟨A3, pb.length, c3⟩ ⟨qA, rsb.length, qC⟩ 0)) (Cnf.rsb (Cnf.mk ⟨r0, r1, r2, r3, ⟨mA, mem.length, mC⟩, ⟨sA, stack.length, sC⟩, pc⟩ ⟨A3, pb.length, c3⟩ ⟨qA, rsb.length, qC⟩ 0)) (Cnf.fin (Cnf.mk ⟨r0, r1, r2, r3, ⟨mA, mem.length, mC⟩, ⟨sA, stack.length, sC⟩, pc⟩ ⟨A3, pb.length, c3⟩ ⟨qA, rsb.length, qC⟩ 0))), rfl, ⟨⟨rfl, rfl, rfl, rfl, ra.r.xa, ra.r.xb, rfl⟩, ra.xd, ra.r.xc, rfl⟩, ⟨ra.r.ta, ra.r.tb, ra.td, ra.r.tc⟩, wb⟩
 by_cases hk4 : kind = 4
 ·subst hk4
  have hF := HFO.out
  rw [if_neg (show ¬ (false = true ∨ (4 : Int) = 12) by decide), if_neg (show ¬ (4 : Int) = 11 by decide), if_pos (by decide)] at hF
  obtain ⟨hd0, hd1⟩ := HD.out
  have hbt : bits BinOp.and IntKind.i64 xd 3 = xd := by
   rcases (show xd = 0 ∨ xd = 1 ∨ xd = 2 ∨ xd = 3 by omega) with rfl | rfl | rfl | rfl <;> kernel_rfl
  obtain ⟨kd, rfl⟩ : ∃ kd : Nat, xd = (kd : Int) := ⟨xd.toNat, by omega⟩
  have hkd : kd < 4 := by omega
  obtain ⟨a0, a1, a2, a3, hx8, ea⟩ : ∃ a0 a1 a2 a3, (w9.setCell ⟨w4.heap.size, kd, none⟩ (.int .i64 ev)).heap[w4.heap.size]? = some (.cells (Stt.cs ⟨a0, a1, a2, a3, sM, sS, pc⟩).toArray 36 (0, 0)) ∧ setReg ⟨r0, r1, r2, r3, mem, stack, pc⟩ (kd : Int) ev = ⟨a0, a1, a2, a3, mem, stack, pc⟩ := by
   have h := heap_setCell_same w9 w4.heap.size kd _ _ (.int .i64 ev) X8.out
   rcases (show kd = 0 ∨ kd = 1 ∨ kd = 2 ∨ kd = 3 by omega) with rfl | rfl | rfl | rfl
   ·exact ⟨ev, r1, r2, r3, h, rfl⟩
   ·exact ⟨r0, ev, r2, r3, h, rfl⟩
   ·exact ⟨r0, r1, ev, r3, h, rfl⟩
   ·exact ⟨r0, r1, r2, ev, h, rfl⟩
  rw [ea] at hF
  obtain ⟨u0, hu0⟩ : ∃ u0 : Value, [Value.int .i64 r0, Value.int .i64 r1, Value.int .i64 r2, Value.int .i64 r3, Value.slice sM.A sM.n sM.c, Value.slice sS.A sS.n sS.c, Value.int .i64 pc][kd]? = some u0 := by
   rcases (show kd = 0 ∨ kd = 1 ∨ kd = 2 ∨ kd = 3 by omega) with rfl | rfl | rfl | rfl <;> exact ⟨_, rfl⟩
  have HF := Kept.mk hF
  have HX8 := Kept.mk hx8
  clear hF HFO HF1 HF2 HD ea hx8
  go_upto_region 23 with (fail)
  have RA := Kept.mk (RA.out.row (q0F (j := kd) X8.out (.int .i64 ev)) (by decide) (by decide))
  have WB := Kept.mk (WB.out.setCell (p := ⟨w4.heap.size, kd, none⟩) (show w.heap.size ≤ w4.heap.size by omega) (.int .i64 ev))
  have X4 := Kept.mk (q03 (p := ⟨w4.heap.size, kd, none⟩) (u := .int .i64 ev) X4.out (by show w4.heap.size ≠ w.heap.size + 1 + 1; omega))
  have X3 := Kept.mk (q03 (p := ⟨w4.heap.size, kd, none⟩) (u := .int .i64 ev) X3.out (by show w4.heap.size ≠ w.heap.size + 1; omega))
  have X8 := Kept.mk (heap_setCell_same _ (w4.heap.size) kd _ _ (.int .i64 ev) X8.out)
  have SQ : w.heap.size + 3 ≤ (w9.setCell ⟨w4.heap.size, kd, none⟩ (.int .i64 ev)).heap.size := by have := WB.out.size; first | omega | (simp [World.setCell]; omega)
  have SQ8 : w4.heap.size < (w9.setCell ⟨w4.heap.size, kd, none⟩ (.int .i64 ev)).heap.size := by first | omega | (simp [World.setCell]; omega)
  clear Y3 Y6 Y7 Y8 F3 F8
  generalize (w9.setCell ⟨w4.heap.size, kd, none⟩ (.int .i64 ev)) = wq at *
  have X8 := HX8
  clear HX8
  have X3c : wq.heap[w.heap.size + 1]? = some (.cells (Cnf.cs (Cnf.mk ⟨r0, r1, r2, r3, ⟨mA, mem.length, mC⟩, ⟨sA, stack.length, sC⟩, pc⟩ ⟨A3, pb.length, c3⟩ ⟨qA, rsb.length, qC⟩ 0)).toArray 41 (0, 0)) := X3.out
  have X8c : wq.heap[w4.heap.size]? = some (.cells (Stt.cs (Stt.mk a0 a1 a2 a3 sM sS pc)).toArray 36 (0, 0)) := X8.out
  have Y8 := fun j => cell_of_row wq (w4.heap.size) j _ _ _ X8c
  have Y3 := fun j => cell_of_row wq (w.heap.size + 1) j _ _ _ X3c
  have F3 := fun j => frozen_of_row wq (w.heap.size + 1) j _ _ X3c
  simp only [Cnf.cs, Stt.cs] at Y8 Y3
  have X3 := Kept.mk X3c
  clear X3c X8c X8
  go_upto_region 24 with (fail)
  have x3 := stt_set7 (Cnf.mk ⟨r0, r1, r2, r3, ⟨mA, mem.length, mC⟩, ⟨sA, stack.length, sC⟩, pc⟩ ⟨A3, pb.length, c3⟩ ⟨qA, rsb.length, qC⟩ 0) (Stt.mk a0 a1 a2 a3 sM sS pc) X3.out
  have hg7 := grown7 wq (w.heap.size + 1) (Stt.mk a0 a1 a2 a3 sM sS pc)
  have x4 := (hg7.block (w.heap.size + 1 + 1) (by omega) (by intro h; injection h with h; omega)).trans X4.out
  have ra := RA.out.row ⟨⟨_, X3.out⟩, hg7⟩ (by decide) (by decide)
  have wb := below7 (g := w.heap.size + 1) (Stt.mk a0 a1 a2 a3 sM sS pc) WB.out (by omega)
  have sz := hg7.size
  dsimp only at x3 x4 ra wb sz
  clear X3 X4 RA WB Y8 Y3 F3 hg7
  generalize (((((((wq.setCell ⟨w.heap.size + 1, 0, none⟩ _).setCell ⟨w.heap.size + 1, 1, none⟩ _).setCell ⟨w.heap.size + 1, 2, none⟩ _).setCell ⟨w.heap.size + 1, 3, none⟩ _).setCell ⟨w.heap.size + 1, 4, none⟩ _).setCell ⟨w.heap.size + 1, 5, none⟩ _).setCell ⟨w.heap.size + 1, 6, none⟩ _) = wr at *
  have RA := Kept.mk ra
  have WB := Kept.mk wb
  have X4 := Kept.mk x4
  have Y3 := fun j => cell_of_row wr (w.heap.size + 1) j _ _ _ x3
  have Y4 := fun j => cell_of_row wr (w.heap.size + 1 + 1) j _ _ _ x4
  have F4 := fun j => frozen_of_row wr (w.heap.size + 1 + 1) j _ _ x4
  simp only [Cnf.cs, Cnf.zero, Sl.none] at Y3 Y4
  clear x3 ra wb x4
  go_wp2_with fail
  have ra := RA.out.row ⟨⟨_, X4.out⟩, grown10 _ (w.heap.size + 1 + 1) (Cnf.mk (Stt.mk a0 a1 a2 a3 sM sS pc) (Cnf.buf (Cnf.mk ⟨r0, r1, r2, r3, ⟨mA, mem.length, mC⟩, ⟨sA, stack.length, sC⟩, pc⟩ ⟨A3, pb.length, c3⟩ ⟨qA, rsb.length, qC⟩ 0)) (Cnf.rsb (Cnf.mk ⟨r0, r1, r2, r3, ⟨mA, mem.length, mC⟩, ⟨sA, stack.length, sC⟩, pc⟩ ⟨A3, pb.length, c3⟩ ⟨qA, rsb.length, qC⟩ 0)) (Cnf.fin (Cnf.mk ⟨r0, r1, r2, r3, ⟨mA, mem.length, mC⟩, ⟨sA, stack.length, sC⟩, pc⟩ ⟨A3, pb.length, c3⟩ ⟨qA, rsb.length, qC⟩ 0)))⟩ (by decide) (by decide)
  have wb := below10 (g := w.heap.size + 1 + 1) (Cnf.mk (Stt.mk a0 a1 a2 a3 sM sS pc) (Cnf.buf (Cnf.mk ⟨r0, r1, r2, r3, ⟨mA, mem.length, mC⟩, ⟨sA, stack.length, sC⟩, pc⟩ ⟨A3, pb.length, c3⟩ ⟨qA, rsb.length, qC⟩ 0)) (Cnf.rsb (Cnf.mk ⟨r0, r1, r2, r3, ⟨mA, mem.length, mC⟩, ⟨sA, stack.length, sC⟩, pc⟩ ⟨A3, pb.length, c3⟩ ⟨qA, rsb.length, qC⟩ 0)) (Cnf.fin (Cnf.mk ⟨r0, r1, r2, r3, ⟨mA, mem.length, mC⟩, ⟨sA, stack.length, sC⟩, pc⟩ ⟨A3, pb.length, c3⟩ ⟨qA, rsb.length, qC⟩ 0))) WB.out (by omega)
  have x4 := q11 Cnf.zero (Cnf.mk (Stt.mk a0 a1 a2 a3 sM sS pc) (Cnf.buf (Cnf.mk ⟨r0, r1, r2, r3, ⟨mA, mem.length, mC⟩, ⟨sA, stack.length, sC⟩, pc⟩ ⟨A3, pb.length, c3⟩ ⟨qA, rsb.length, qC⟩ 0)) (Cnf.rsb (Cnf.mk ⟨r0, r1, r2, r3, ⟨mA, mem.length, mC⟩, ⟨sA, stack.length, sC⟩, pc⟩ ⟨A3, pb.length, c3⟩ ⟨qA, rsb.length, qC⟩ 0)) (Cnf.fin (Cnf.mk ⟨r0, r1, r2, r3, ⟨mA, mem.length, mC⟩, ⟨sA, stack.length, sC⟩, pc⟩ ⟨A3, pb.length, c3⟩ ⟨qA, rsb.length, qC⟩ 0))) X4.out
  dsimp only at ra wb x4
  refine q0C _ [Cnf.v (Cnf.mk (Stt.mk a0 a1 a2 a3 sM sS pc) (Cnf.buf (Cnf.mk ⟨r0, r1, r2, r3, ⟨mA, mem.length, mC⟩, ⟨sA, stack.length, sC⟩, pc⟩ ⟨A3, pb.length, c3⟩ ⟨qA, rsb.length, qC⟩ 0)) (Cnf.rsb (Cnf.mk ⟨r0, r1, r2, r3, ⟨mA, mem.length, mC⟩, ⟨sA, stack.length, sC⟩, pc⟩ ⟨A3, pb.length, c3⟩ ⟨qA, rsb.length, qC⟩ 0)) (Cnf.fin (Cnf.mk ⟨r0, r1, r2, r3, ⟨mA, mem.length, mC⟩, ⟨sA, stack.length, sC⟩, pc⟩ ⟨A3, pb.length, c3⟩ ⟨qA, rsb.length, qC⟩ 0))), .bool true] Try.results35 (.cons (.cell (cs := Cnf.cs (Cnf.mk (Stt.mk a0 a1 a2 a3 sM sS pc) (Cnf.buf (Cnf.mk ⟨r0, r1, r2, r3, ⟨mA, mem.length, mC⟩, ⟨sA, stack.length, sC⟩, pc⟩ ⟨A3, pb.length, c3⟩ ⟨qA, rsb.length, qC⟩ 0)) (Cnf.rsb (Cnf.mk ⟨r0, r1, r2, r3, ⟨mA, mem.length, mC⟩, ⟨sA, stack.length, sC⟩, pc⟩ ⟨A3, pb.length, c3⟩ ⟨qA, rsb.length, qC⟩ 0)) (Cnf.fin (Cnf.mk ⟨r0, r1, r2, r3, ⟨mA, mem.length, mC⟩, ⟨sA, stack.length, sC⟩, pc⟩ ⟨A3, pb.length, c3⟩ ⟨qA, rsb.length, qC⟩ 0)))) (b := w.heap.size + 1 + 1) (off := 0) rfl rfl (q05 x4) Try.underlying41 rfl (by kernel_rfl)) (.cons (.tmp rfl) .nil)) rfl ?_
  rw [← HF.out]
  have ra := ra
  exact ⟨(Cnf.mk (Stt.mk a0 a1 a2 a3 sM sS pc) (Cnf.buf (Cnf.mk ⟨r0, r1, r2, r3, ⟨mA, mem.length, mC⟩, ⟨sA, stack.length, sC⟩, pc⟩ ⟨A3, pb.length, c3⟩ ⟨qA, rsb.length, qC⟩ 0)) (Cnf.rsb (Cnf.mk ⟨r0, r1, r2, r3, ⟨mA, mem.length, mC⟩, ⟨sA, stack.length, sC⟩, pc⟩ ⟨A3, pb.length, c3⟩ ⟨qA, rsb.length, qC⟩ 0)) (Cnf.fin (Cnf.mk ⟨r0, r1, r2, r3, ⟨mA, mem.length, mC⟩, ⟨sA, stack.length, sC⟩, pc⟩ ⟨A3, pb.length, c3⟩ ⟨qA, rsb.length, qC⟩ 0))), rfl, ⟨⟨rfl, rfl, rfl, rfl, ra.r.xa, ra.r.xb, rfl⟩, ra.xd, ra.r.xc, rfl⟩, ⟨ra.r.ta, ra.r.tb, ra.td, ra.r.tc⟩, wb⟩
 by_cases hk3 : kind = 3
 ·subst hk3
  have hF := HFO.out
  rw [if_neg (show ¬ (false = true ∨ (3 : Int) = 12) by decide), if_neg (show ¬ (3 : Int) = 11 by decide), if_neg (show ¬ ((3 : Int) = 1 ∨ (3 : Int) = 2 ∨ (3 : Int) = 4) by decide), if_pos rfl] at hF
  obtain ⟨hea0, hea1⟩ := HF1.out rfl rfl
  obtain ⟨k, rfl⟩ : ∃ k : Nat, ea = (k : Int) := ⟨ea.toNat, by omega⟩
  have hk : k < mem.length := by omega
  rw [Int.toNat_natCast] at hF
  have HF := Kept.mk hF
  clear hF HFO HF1 HF2 hea0 hea1
  obtain ⟨MA, Mn, Mc⟩ := sM
  have hmn : Mn = mem.length := OM.out.is.n
  subst hmn
  obtain ⟨gm, e0, hgm, ⟨cur, hcur⟩, hcm, hfm, hset⟩ := OwnI.elS OM.out hk ev
  have e0 : MA = some ⟨gm, 0, none⟩ := e0
  subst e0
  have hmc : mem.length ≤ Mc := OM.out.is.c
  have HCU := Kept.mk hcur
  have HST := Kept.mk hset
  dsimp only at Y8 X8 AP
  clear hcur hset
  go_upto_region 23 with (fail)
  have hq := q08 w9 ⟨gm, k, none⟩ (.int .i64 ev)
  have x3 := q03 (p := ⟨gm, k, none⟩) (u := .int .i64 ev) X3.out (by show gm ≠ w.heap.size + 1; omega)
  have x4 := q03 (p := ⟨gm, k, none⟩) (u := .int .i64 ev) X4.out (by show gm ≠ w.heap.size + 1 + 1; omega)
  have x8 := q03 (p := ⟨gm, k, none⟩) (u := .int .i64 ev) X8.out (by show gm ≠ w4.heap.size; omega)
  have wb := WB.out.setCell (p := ⟨gm, k, none⟩) (show w.heap.size ≤ gm by omega) (.int .i64 ev)
  have os : OwnI (w9.setCell ⟨gm, k, none⟩ (.int .i64 ev)) w5.heap.size (.slice sS.A sS.n sS.c) stack := World.ownsRow.kept OS.out hq (.inr (AP.out gm rfl))
  have rq := RS0.out.past wb
  have ra : CfAll (w9.setCell ⟨gm, k, none⟩ (.int .i64 ev)) ⟨some ⟨gm, 0, none⟩, mem.length, Mc⟩ sS ⟨qA, rsb.length, qC⟩ ⟨A3, pb.length, c3⟩ (mem.set k ev) stack rsb pb :=
   ⟨⟨OwnI.is (s := ⟨some ⟨gm, 0, none⟩, mem.length, Mc⟩) HST.out, OwnI.is os, rq.xc, Tag.of_own HST.out, Tag.of_own os, rq.tc⟩, RA.out.xd.row RA.out.td ⟨⟨cur, HCU.out⟩, hq⟩ (by decide), RA.out.td.row ⟨⟨cur, HCU.out⟩, hq⟩ (by decide)⟩
  clear RA X3 X4 X8 WB hq os rq
  have RA := Kept.mk ra
  have X3 := Kept.mk x3
  have X4 := Kept.mk x4
  have X8 := Kept.mk x8
  have WB := Kept.mk wb
  clear ra x3 x4 x8 wb HST HCU hcm hfm
  have SQ : w.heap.size + 3 ≤ (w9.setCell ⟨gm, k, none⟩ (.int .i64 ev)).heap.size := by have := WB.out.size; first | omega | (simp [World.setCell]; omega)
  have SQ8 : w4.heap.size < (w9.setCell ⟨gm, k, none⟩ (.int .i64 ev)).heap.size := by first | omega | (simp [World.setCell]; omega)
  clear Y3 Y6 Y7 Y8 F3 F8
  generalize (w9.setCell ⟨gm, k, none⟩ (.int .i64 ev)) = wq at *
  have X3c : wq.heap[w.heap.size + 1]? = some (.cells (Cnf.cs (Cnf.mk ⟨r0, r1, r2, r3, ⟨mA, mem.length, mC⟩, ⟨sA, stack.length, sC⟩, pc⟩ ⟨A3, pb.length, c3⟩ ⟨qA, rsb.length, qC⟩ 0)).toArray 41 (0, 0)) := X3.out
  have X8c : wq.heap[w4.heap.size]? = some (.cells (Stt.cs (Stt.mk r0 r1 r2 r3 ⟨some ⟨gm, 0, none⟩, mem.length, Mc⟩ sS pc)).toArray 36 (0, 0)) := X8.out
  have Y8 := fun j => cell_of_row wq (w4.heap.size) j _ _ _ X8c
  have Y3 := fun j => cell_of_row wq (w.heap.size + 1) j _ _ _ X3c
  have F3 := fun j => frozen_of_row wq (w.heap.size + 1) j _ _ X3c
  simp only [Cnf.cs, Stt.cs] at Y8 Y3
  have X3 := Kept.mk X3c
  clear X3c X8c X8
  go_upto_region 24 with (fail)
  have x3 := stt_set7 (Cnf.mk ⟨r0, r1, r2, r3, ⟨mA, mem.length, mC⟩, ⟨sA, stack.length, sC⟩, pc⟩ ⟨A3, pb.length, c3⟩ ⟨qA, rsb.length, qC⟩ 0) (Stt.mk r0 r1 r2 r3 ⟨some ⟨gm, 0, none⟩, mem.length, Mc⟩ sS pc) X3.out
  have hg7 := grown7 wq (w.heap.size + 1) (Stt.mk r0 r1 r2 r3 ⟨some ⟨gm, 0, none⟩, mem.length, Mc⟩ sS pc)
  have x4 := (hg7.block (w.heap.size + 1 + 1) (by omega) (by intro h; injection h with h; omega)).trans X4.out
  have ra := RA.out.row ⟨⟨_, X3.out⟩, hg7⟩ (by decide) (by decide)
  have wb := below7 (g := w.heap.size + 1) (Stt.mk r0 r1 r2 r3 ⟨some ⟨gm, 0, none⟩, mem.length, Mc⟩ sS pc) WB.out (by omega)
  have sz := hg7.size
  dsimp only at x3 x4 ra wb sz
  clear X3 X4 RA WB Y8 Y3 F3 hg7
  generalize (((((((wq.setCell ⟨w.heap.size + 1, 0, none⟩ _).setCell ⟨w.heap.size + 1, 1, none⟩ _).setCell ⟨w.heap.size + 1, 2, none⟩ _).setCell ⟨w.heap.size + 1, 3, none⟩ _).setCell ⟨w.heap.size + 1, 4, none⟩ _).setCell ⟨w.heap.size + 1, 5, none⟩ _).setCell ⟨w.heap.size + 1, 6, none⟩ _) = wr at *
  have RA := Kept.mk ra
  have WB := Kept.mk wb
  have X4 := Kept.mk x4
  have Y3 := fun j => cell_of_row wr (w.heap.size + 1) j _ _ _ x3
  have Y4 := fun j => cell_of_row wr (w.heap.size + 1 + 1) j _ _ _ x4
  have F4 := fun j => frozen_of_row wr (w.heap.size + 1 + 1) j _ _ x4
  simp only [Cnf.cs, Cnf.zero, Sl.none] at Y3 Y4
  clear x3 ra wb x4
  go_wp2_with fail
  have ra := RA.out.row ⟨⟨_, X4.out⟩, grown10 _ (w.heap.size + 1 + 1) (Cnf.mk (Stt.mk r0 r1 r2 r3 ⟨some ⟨gm, 0, none⟩, mem.length, Mc⟩ sS pc) (Cnf.buf (Cnf.mk ⟨r0, r1, r2, r3, ⟨mA, mem.length, mC⟩, ⟨sA, stack.length, sC⟩, pc⟩ ⟨A3, pb.length, c3⟩ ⟨qA, rsb.length, qC⟩ 0)) (Cnf.rsb (Cnf.mk ⟨r0, r1, r2, r3, ⟨mA, mem.length, mC⟩, ⟨sA, stack.length, sC⟩, pc⟩ ⟨A3, pb.length, c3⟩ ⟨qA, rsb.length, qC⟩ 0)) (Cnf.fin (Cnf.mk ⟨r0, r1, r2, r3, ⟨mA, mem.length, mC⟩, ⟨sA, stack.length, sC⟩, pc⟩ ⟨A3, pb.length, c3⟩ ⟨qA, rsb.length, qC⟩ 0)))⟩ (by decide) (by decide)
  have wb := below10 (g := w.heap.size + 1 + 1) (Cnf.mk (Stt.mk r0 r1 r2 r3 ⟨some ⟨gm, 0, none⟩, mem.length, Mc⟩ sS pc) (Cnf.buf (Cnf.mk ⟨r0, r1, r2, r3, ⟨mA, mem.length, mC⟩, ⟨sA, stack.length, sC⟩, pc⟩ ⟨A3, pb.length, c3⟩ ⟨qA, rsb.length, qC⟩ 0)) (Cnf.rsb (Cnf.mk ⟨r0, r1, r2, r3, ⟨mA, mem.length, mC⟩, ⟨sA, stack.length, sC⟩, pc⟩ ⟨A3, pb.length, c3⟩ ⟨qA, rsb.length, qC⟩ 0)) (Cnf.fin (Cnf.mk ⟨r0, r1, r2, r3, ⟨mA, mem.length, mC⟩, ⟨sA, stack.length, sC⟩, pc⟩ ⟨A3, pb.length, c3⟩ ⟨qA, rsb.length, qC⟩ 0))) WB.out (by omega)
  have x4 := q11 Cnf.zero (Cnf.mk (Stt.mk r0 r1 r2 r3 ⟨some ⟨gm, 0, none⟩, mem.length, Mc⟩ sS pc) (Cnf.buf (Cnf.mk ⟨r0, r1, r2, r3, ⟨mA, mem.length, mC⟩, ⟨sA, stack.length, sC⟩, pc⟩ ⟨A3, pb.length, c3⟩ ⟨qA, rsb.length, qC⟩ 0)) (Cnf.rsb (Cnf.mk ⟨r0, r1, r2, r3, ⟨mA, mem.length, mC⟩, ⟨sA, stack.length, sC⟩, pc⟩ ⟨A3, pb.length, c3⟩ ⟨qA, rsb.length, qC⟩ 0)) (Cnf.fin (Cnf.mk ⟨r0, r1, r2, r3, ⟨mA, mem.length, mC⟩, ⟨sA, stack.length, sC⟩, pc⟩ ⟨A3, pb.length, c3⟩ ⟨qA, rsb.length, qC⟩ 0))) X4.out
  dsimp only at ra wb x4
  refine q0C _ [Cnf.v (Cnf.mk (Stt.mk r0 r1 r2 r3 ⟨some ⟨gm, 0, none⟩, mem.length, Mc⟩ sS pc) (Cnf.buf (Cnf.mk ⟨r0, r1, r2, r3, ⟨mA, mem.length, mC⟩, ⟨sA, stack.length, sC⟩, pc⟩ ⟨A3, pb.length, c3⟩ ⟨qA, rsb.length, qC⟩ 0)) (Cnf.rsb (Cnf.mk ⟨r0, r1, r2, r3, ⟨mA, mem.length, mC⟩, ⟨sA, stack.length, sC⟩, pc⟩ ⟨A3, pb.length, c3⟩ ⟨qA, rsb.length, qC⟩ 0)) (Cnf.fin (Cnf.mk ⟨r0, r1, r2, r3, ⟨mA, mem.length, mC⟩, ⟨sA, stack.length, sC⟩, pc⟩ ⟨A3, pb.length, c3⟩ ⟨qA, rsb.length, qC⟩ 0))), .bool true] Try.results35 (.cons (.cell (cs := Cnf.cs (Cnf.mk (Stt.mk r0 r1 r2 r3 ⟨some ⟨gm, 0, none⟩, mem.length, Mc⟩ sS pc) (Cnf.buf (Cnf.mk ⟨r0, r1, r2, r3, ⟨mA, mem.length, mC⟩, ⟨sA, stack.length, sC⟩, pc⟩ ⟨A3, pb.length, c3⟩ ⟨qA, rsb.length, qC⟩ 0)) (Cnf.rsb (Cnf.mk ⟨r0, r1, r2, r3, ⟨mA, mem.length, mC⟩, ⟨sA, stack.length, sC⟩, pc⟩ ⟨A3, pb.length, c3⟩ ⟨qA, rsb.length, qC⟩ 0)) (Cnf.fin (Cnf.mk ⟨r0, r1, r2, r3, ⟨mA, mem.length, mC⟩, ⟨sA, stack.length, sC⟩, pc⟩ ⟨A3, pb.length, c3⟩ ⟨qA, rsb.length, qC⟩ 0)))) (b := w.heap.size + 1 + 1) (off := 0) rfl rfl (q05 x4) Try.underlying41 rfl (by kernel_rfl)) (.cons (.tmp rfl) .nil)) rfl ?_
  rw [← HF.out]
  have ra := ra
  exact ⟨(Cnf.mk (Stt.mk r0 r1 r2 r3 ⟨some ⟨gm, 0, none⟩, mem.length, Mc⟩ sS pc) (Cnf.buf (Cnf.mk ⟨r0, r1, r2, r3, ⟨mA, mem.length, mC⟩, ⟨sA, stack.length, sC⟩, pc⟩ ⟨A3, pb.length, c3⟩ ⟨qA, rsb.length, qC⟩ 0)) (Cnf.rsb (Cnf.mk ⟨r0, r1, r2, r3, ⟨mA, mem.length, mC⟩, ⟨sA, stack.length, sC⟩, pc⟩ ⟨A3, pb.length, c3⟩ ⟨qA, rsb.length, qC⟩ 0)) (Cnf.fin (Cnf.mk ⟨r0, r1, r2, r3, ⟨mA, mem.length, mC⟩, ⟨sA, stack.length, sC⟩, pc⟩ ⟨A3, pb.length, c3⟩ ⟨qA, rsb.length, qC⟩ 0))), rfl, ⟨⟨rfl, rfl, rfl, rfl, ra.r.xa, ra.r.xb, rfl⟩, ra.xd, ra.r.xc, rfl⟩, ⟨ra.r.ta, ra.r.tb, ra.td, ra.r.tc⟩, wb⟩
 by_cases hk8 : kind = 8
 ·subst hk8
  have hF := HFO.out
  rw [if_neg (show ¬ (false = true ∨ (8 : Int) = 12) by decide), if_neg (show ¬ (8 : Int) = 11 by decide), if_neg (show ¬ ((8 : Int) = 1 ∨ (8 : Int) = 2 ∨ (8 : Int) = 4) by decide), if_neg (show ¬ (8 : Int) = 3 by decide), if_pos rfl] at hF
  have HF := Kept.mk hF
  clear hF HFO HF1 HF2
  obtain ⟨SA, Sn, Sc⟩ := sS
  have hsn : Sn = stack.length := OS.out.is.n
  subst hsn
  dsimp only at Y8 X8 AP OS
  go_wp2_with (at_builtin; go_must (refine append_int _ rfl (.tmp 89) (.tmp 93) rfl w5.heap.size rfl (OS.out.past (q00 _ _)) _ (epc + 1) rfl (q06 (by simp)) ?c0 ?c1 ?_))
  case c0 => omega
  case c1 => simp; omega
  intro vn wn hn hg bn
  have hn : OwnI wn w5.heap.size vn (stack ++ [epc + 1]) := hn
  obtain ⟨An, cn, rfl, hcn, rn⟩ := hn.shape
  have hl : (stack ++ [epc + 1]).length = stack.length + 1 := by simp
  rw [hl] at hn hcn ⊢
  clear hl
  have bA := q00 w9 (.cells #[.int .i64 (epc + 1)] 3)
  have x3 := (bn.block (w.heap.size + 1) (by omega)).trans (q01 X3.out bA)
  have x4 := (bn.block (w.heap.size + 1 + 1) (by omega)).trans (q01 X4.out bA)
  have x8 := (bn.block w4.heap.size (by omega)).trans (q01 X8.out bA)
  have wb := (WB.out.trans (bA.mono WB.out.size)).trans (bn.mono (show w.heap.size ≤ w5.heap.size by omega))
  have om : OwnI wn w5.heap.size (.slice sM.A sM.n sM.c) mem := World.ownsRow.kept (OM.out.past bA) hg (by
   cases he : (Value.slice sM.A sM.n sM.c).ownBlock with
   | none => exact .inl rfl
   | some g => exact .inr (fun e => AP.out g he e.symm))
  have ob : OwnE wn wz.heap.size (.slice A3 pb.length c3) pb := World.ownsRow.kept (OB9.out.past bA) hg (by
   cases he : (Value.slice A3 pb.length c3).ownBlock with
   | none => exact .inl rfl
   | some g => exact .inr (fun e => by have := HBL.out g he; have := (World.ownsRow.lt OS.out g e.symm).1; omega))
  have rq := RS0.out.past wb
  have sz9 : w9.heap.size ≤ wn.heap.size := by have := bn.size; simp at this; omega
  have ra : CfAll wn sM ⟨An, stack.length + 1, cn⟩ ⟨qA, rsb.length, qC⟩ ⟨A3, pb.length, c3⟩ mem (stack ++ [epc + 1]) rsb pb :=
   ⟨⟨OwnI.is om, OwnI.is (s := ⟨An, stack.length + 1, cn⟩) hn, rq.xc, Tag.of_own om, Tag.of_own hn, rq.tc⟩, OwnE.is (s := ⟨A3, pb.length, c3⟩) ob, Tag.of_own ob⟩
  clear RA X3 X4 X8 WB Y3 Y6 Y7 Y8 F3 F8 bA hn hg bn om ob rq rn
  have RA := Kept.mk ra
  have X3 := Kept.mk x3
  have X4 := Kept.mk x4
  have X8 := Kept.mk x8
  have WB := Kept.mk wb
  have Y3 := fun j => cell_of_row wn (w.heap.size + 1) j _ _ _ x3
  have Y8 := fun j => cell_of_row wn w4.heap.size j _ _ _ x8
  have F8 := fun j => frozen_of_row wn w4.heap.size j _ _ x8
  simp only [Stt.cs] at Y8
  clear ra x3 x4 x8 wb
  go_upto_region 23 with (fail)
  have RA := Kept.mk (RA.out.row (q0F (j := 5) X8.out (.slice An (stack.length + 1) cn)) (by decide) (by decide))
  have WB := Kept.mk (WB.out.setCell (p := ⟨w4.heap.size, 5, none⟩) (show w.heap.size ≤ w4.heap.size by omega) (.slice An (stack.length + 1) cn))
  have X4 := Kept.mk (q03 (p := ⟨w4.heap.size, 5, none⟩) (u := .slice An (stack.length + 1) cn) X4.out (by show w4.heap.size ≠ w.heap.size + 1 + 1; omega))
  have X3 := Kept.mk (q03 (p := ⟨w4.heap.size, 5, none⟩) (u := .slice An (stack.length + 1) cn) X3.out (by show w4.heap.size ≠ w.heap.size + 1; omega))
  have X8 := Kept.mk (heap_setCell_same _ (w4.heap.size) 5 _ _ (.slice An (stack.length + 1) cn) X8.out)
  have SQ : w.heap.size + 3 ≤ (wn.setCell ⟨w4.heap.size, 5, none⟩ (.slice An (stack.length + 1) cn)).heap.size := by have := WB.out.size; first | omega | (simp [World.setCell]; omega)
  have SQ8 : w4.heap.size < (wn.setCell ⟨w4.heap.size, 5, none⟩ (.slice An (stack.length + 1) cn)).heap.size := by first | omega | (simp [World.setCell]; omega)
  clear Y3 Y8 F8
  generalize (wn.setCell ⟨w4.heap.size, 5, none⟩ (.slice An (stack.length + 1) cn)) = wq at *
  have X3c : wq.heap[w.heap.size + 1]? = some (.cells (Cnf.cs (Cnf.mk ⟨r0, r1, r2, r3, ⟨mA, mem.length, mC⟩, ⟨sA, stack.length, sC⟩, pc⟩ ⟨A3, pb.length, c3⟩ ⟨qA, rsb.length, qC⟩ 0)).toArray 41 (0, 0)) := X3.out
  have X8c : wq.heap[w4.heap.size]? = some (.cells (Stt.cs (Stt.mk r0 r1 r2 r3 sM ⟨An, stack.length + 1, cn⟩ pc)).toArray 36 (0, 0)) := X8.out
  have Y8 := fun j => cell_of_row wq (w4.heap.size) j _ _ _ X8c
  have Y3 := fun j => cell_of_row wq (w.heap.size + 1) j _ _ _ X3c
  have F3 := fun j => frozen_of_row wq (w.heap.size + 1) j _ _ X3c
  simp only [Cnf.cs, Stt.cs] at Y8 Y3
  have X3 := Kept.mk X3c
  clear X3c X8c X8
  go_upto_region 24 with (fail)
  have x3 := stt_set7 (Cnf.mk ⟨r0, r1, r2, r3, ⟨mA, mem.length, mC⟩, ⟨sA, stack.length, sC⟩, pc⟩ ⟨A3, pb.length, c3⟩ ⟨qA, rsb.length, qC⟩ 0) (Stt.mk r0 r1 r2 r3 sM ⟨An, stack.length + 1, cn⟩ pc) X3.out
  have hg7 := grown7 wq (w.heap.size + 1) (Stt.mk r0 r1 r2 r3 sM ⟨An, stack.length + 1, cn⟩ pc)
  have x4 := (hg7.block (w.heap.size + 1 + 1) (by omega) (by intro h; injection h with h; omega)).trans X4.out
  have ra := RA.out.row ⟨⟨_, X3.out⟩, hg7⟩ (by decide) (by decide)
  have wb := below7 (g := w.heap.size + 1) (Stt.mk r0 r1 r2 r3 sM ⟨An, stack.length + 1, cn⟩ pc) WB.out (by omega)
  have sz := hg7.size
  dsimp only at x3 x4 ra wb sz
  clear X3 X4 RA WB Y8 Y3 F3 hg7
  generalize (((((((wq.setCell ⟨w.heap.size + 1, 0, none⟩ _).setCell ⟨w.heap.size + 1, 1, none⟩ _).setCell ⟨w.heap.size + 1, 2, none⟩ _).setCell ⟨w.heap.size + 1, 3, none⟩ _).setCell ⟨w.heap.size + 1, 4, none⟩ _).setCell ⟨w.heap.size + 1, 5, none⟩ _).setCell ⟨w.heap.size + 1, 6, none⟩ _) = wr at *
  have RA := Kept.mk ra
  have WB := Kept.mk wb
  have X4 := Kept.mk x4
  have Y3 := fun j => cell_of_row wr (w.heap.size + 1) j _ _ _ x3
  have Y4 := fun j => cell_of_row wr (w.heap.size + 1 + 1) j _ _ _ x4
  have F4 := fun j => frozen_of_row wr (w.heap.size + 1 + 1) j _ _ x4
  simp only [Cnf.cs, Cnf.zero, Sl.none] at Y3 Y4
  clear x3 ra wb x4
  go_wp2_with fail
  have ra := RA.out.row ⟨⟨_, X4.out⟩, grown10 _ (w.heap.size + 1 + 1) (Cnf.mk (Stt.mk r0 r1 r2 r3 sM ⟨An, stack.length + 1, cn⟩ pc) (Cnf.buf (Cnf.mk ⟨r0, r1, r2, r3, ⟨mA, mem.length, mC⟩, ⟨sA, stack.length, sC⟩, pc⟩ ⟨A3, pb.length, c3⟩ ⟨qA, rsb.length, qC⟩ 0)) (Cnf.rsb (Cnf.mk ⟨r0, r1, r2, r3, ⟨mA, mem.length, mC⟩, ⟨sA, stack.length, sC⟩, pc⟩ ⟨A3, pb.length, c3⟩ ⟨qA, rsb.length, qC⟩ 0)) (Cnf.fin (Cnf.mk ⟨r0, r1, r2, r3, ⟨mA, mem.length, mC⟩, ⟨sA, stack.length, sC⟩, pc⟩ ⟨A3, pb.length, c3⟩ ⟨qA, rsb.length, qC⟩ 0)))⟩ (by decide) (by decide)
  have wb := below10 (g := w.heap.size + 1 + 1) (Cnf.mk (Stt.mk r0 r1 r2 r3 sM ⟨An, stack.length + 1, cn⟩ pc) (Cnf.buf (Cnf.mk ⟨r0, r1, r2, r3, ⟨mA, mem.length, mC⟩, ⟨sA, stack.length, sC⟩, pc⟩ ⟨A3, pb.length, c3⟩ ⟨qA, rsb.length, qC⟩ 0)) (Cnf.rsb (Cnf.mk ⟨r0, r1, r2, r3, ⟨mA, mem.length, mC⟩, ⟨sA, stack.length, sC⟩, pc⟩ ⟨A3, pb.length, c3⟩ ⟨qA, rsb.length, qC⟩ 0)) (Cnf.fin (Cnf.mk ⟨r0, r1, r2, r3, ⟨mA, mem.length, mC⟩, ⟨sA, stack.length, sC⟩, pc⟩ ⟨A3, pb.length, c3⟩ ⟨qA, rsb.length, qC⟩ 0))) WB.out (by omega)
  have x4 := q11 Cnf.zero (Cnf.mk (Stt.mk r0 r1 r2 r3 sM ⟨An, stack.length + 1, cn⟩ pc) (Cnf.buf (Cnf.mk ⟨r0, r1, r2, r3, ⟨mA, mem.length, mC⟩, ⟨sA, stack.length, sC⟩, pc⟩ ⟨A3, pb.length, c3⟩ ⟨qA, rsb.length, qC⟩ 0)) (Cnf.rsb (Cnf.mk ⟨r0, r1, r2, r3, ⟨mA, mem.length, mC⟩, ⟨sA, stack.length, sC⟩, pc⟩ ⟨A3, pb.length, c3⟩ ⟨qA, rsb.length, qC⟩ 0)) (Cnf.fin (Cnf.mk ⟨r0, r1, r2, r3, ⟨mA, mem.length, mC⟩, ⟨sA, stack.length, sC⟩, pc⟩ ⟨A3, pb.length, c3⟩ ⟨qA, rsb.length, qC⟩ 0))) X4.out
  dsimp only at ra wb x4
  refine q0C _ [Cnf.v (Cnf.mk (Stt.mk r0 r1 r2 r3 sM ⟨An, stack.length + 1, cn⟩ pc) (Cnf.buf (Cnf.mk ⟨r0, r1, r2, r3, ⟨mA, mem.length, mC⟩, ⟨sA, stack.length, sC⟩, pc⟩ ⟨A3, pb.length, c3⟩ ⟨qA, rsb.length, qC⟩ 0)) (Cnf.rsb (Cnf.mk ⟨r0, r1, r2, r3, ⟨mA, mem.length, mC⟩, ⟨sA, stack.length, sC⟩, pc⟩ ⟨A3, pb.length, c3⟩ ⟨qA, rsb.length, qC⟩ 0)) (Cnf.fin (Cnf.mk ⟨r0, r1, r2, r3, ⟨mA, mem.length, mC⟩, ⟨sA, stack.length, sC⟩, pc⟩ ⟨A3, pb.length, c3⟩ ⟨qA, rsb.length, qC⟩ 0))), .bool true] Try.results35 (.cons (.cell (cs := Cnf.cs (Cnf.mk (Stt.mk r0 r1 r2 r3 sM ⟨An, stack.length + 1, cn⟩ pc) (Cnf.buf (Cnf.mk ⟨r0, r1, r2, r3, ⟨mA, mem.length, mC⟩, ⟨sA, stack.length, sC⟩, pc⟩ ⟨A3, pb.length, c3⟩ ⟨qA, rsb.length, qC⟩ 0)) (Cnf.rsb (Cnf.mk ⟨r0, r1, r2, r3, ⟨mA, mem.length, mC⟩, ⟨sA, stack.length, sC⟩, pc⟩ ⟨A3, pb.length, c3⟩ ⟨qA, rsb.length, qC⟩ 0)) (Cnf.fin (Cnf.mk ⟨r0, r1, r2, r3, ⟨mA, mem.length, mC⟩, ⟨sA, stack.length, sC⟩, pc⟩ ⟨A3, pb.length, c3⟩ ⟨qA, rsb.length, qC⟩ 0)))) (b := w.heap.size + 1 + 1) (off := 0) rfl rfl (q05 x4) Try.underlying41 rfl (by kernel_rfl)) (.cons (.tmp rfl) .nil)) rfl ?_
  rw [← HF.out]
  have ra := ra
  exact ⟨(Cnf.mk (Stt.mk r0 r1 r2 r3 sM ⟨An, stack.length + 1, cn⟩ pc) (Cnf.buf (Cnf.mk ⟨r0, r1, r2, r3, ⟨mA, mem.length, mC⟩, ⟨sA, stack.length, sC⟩, pc⟩ ⟨A3, pb.length, c3⟩ ⟨qA, rsb.length, qC⟩ 0)) (Cnf.rsb (Cnf.mk ⟨r0, r1, r2, r3, ⟨mA, mem.length, mC⟩, ⟨sA, stack.length, sC⟩, pc⟩ ⟨A3, pb.length, c3⟩ ⟨qA, rsb.length, qC⟩ 0)) (Cnf.fin (Cnf.mk ⟨r0, r1, r2, r3, ⟨mA, mem.length, mC⟩, ⟨sA, stack.length, sC⟩, pc⟩ ⟨A3, pb.length, c3⟩ ⟨qA, rsb.length, qC⟩ 0))), rfl, ⟨⟨rfl, rfl, rfl, rfl, ra.r.xa, ra.r.xb, rfl⟩, ra.xd, ra.r.xc, rfl⟩, ⟨ra.r.ta, ra.r.tb, ra.td, ra.r.tc⟩, wb⟩
 by_cases hk9 : kind = 9
 ·subst hk9
  have hF := HFO.out
  rw [if_neg (show ¬ (false = true ∨ (9 : Int) = 12) by decide), if_neg (show ¬ (9 : Int) = 11 by decide), if_neg (show ¬ ((9 : Int) = 1 ∨ (9 : Int) = 2 ∨ (9 : Int) = 4) by decide), if_neg (show ¬ (9 : Int) = 3 by decide), if_neg (show ¬ (9 : Int) = 8 by decide), if_pos rfl] at hF
  rcases list_end stack with rfl | ⟨rt, lst, rfl⟩
  ·exact absurd rfl (HF2.out rfl rfl)
  simp only [List.dropLast_concat] at hF
  have HF := Kept.mk hF
  clear hF HFO HF1 HF2
  obtain ⟨SA, Sn, Sc⟩ := sS
  have hsn : Sn = rt.length + 1 := by have := OS.out.is.n; simpa using this
  subst hsn
  dsimp only at Y8 X8 AP OS
  have hcut := fun w => cut_int_run SA (rt.length + 1) Sc rt.length (by omega) (OwnI.is (s := ⟨SA, rt.length + 1, Sc⟩) OS.out).c w
  have hrl : rt.length + 1 ≤ 1000 := by simpa using hsl
  have ot : OwnI w9 w5.heap.size (.slice SA rt.length Sc) rt := by
   have := OwnI.take OS.out (n := rt.length + 1) (k := rt.length) (by simp) (by omega)
   rwa [List.take_left' rfl] at this
  have RA := Kept.mk (show CfAll w9 sM ⟨SA, rt.length, Sc⟩ ⟨qA, rsb.length, qC⟩ ⟨A3, pb.length, c3⟩ mem rt rsb pb from
   ⟨⟨RA.out.r.xa, OwnI.is (s := ⟨SA, rt.length, Sc⟩) ot, RA.out.r.xc, RA.out.r.ta, Tag.of_own ot, RA.out.r.tc⟩, RA.out.xd, RA.out.td⟩)
  clear ot
  go_upto_region 23 with (fail)
  have RA := Kept.mk (RA.out.row (q0F (j := 5) X8.out (.slice SA rt.length Sc)) (by decide) (by decide))
  have WB := Kept.mk (WB.out.setCell (p := ⟨w4.heap.size, 5, none⟩) (show w.heap.size ≤ w4.heap.size by omega) (.slice SA rt.length Sc))
  have X4 := Kept.mk (q03 (p := ⟨w4.heap.size, 5, none⟩) (u := .slice SA rt.length Sc) X4.out (by show w4.heap.size ≠ w.heap.size + 1 + 1; omega))
  have X3 := Kept.mk (q03 (p := ⟨w4.heap.size, 5, none⟩) (u := .slice SA rt.length Sc) X3.out (by show w4.heap.size ≠ w.heap.size + 1; omega))
  have X8 := Kept.mk (heap_setCell_same _ (w4.heap.size) 5 _ _ (.slice SA rt.length Sc) X8.out)
  have SQ : w.heap.size + 3 ≤ (w9.setCell ⟨w4.heap.size, 5, none⟩ (.slice SA rt.length Sc)).heap.size := by have := WB.out.size; first | omega | (simp [World.setCell]; omega)
  have SQ8 : w4.heap.size < (w9.setCell ⟨w4.heap.size, 5, none⟩ (.slice SA rt.length Sc)).heap.size := by first | omega | (simp [World.setCell]; omega)
  clear Y3 Y6 Y7 Y8 F3 F8
  generalize (w9.setCell ⟨w4.heap.size, 5, none⟩ (.slice SA rt.length Sc)) = wq at *
  have X3c : wq.heap[w.heap.size + 1]? = some (.cells (Cnf.cs (Cnf.mk ⟨r0, r1, r2, r3, ⟨mA, mem.length, mC⟩, ⟨sA, (rt ++ [lst]).length, sC⟩, pc⟩ ⟨A3, pb.length, c3⟩ ⟨qA, rsb.length, qC⟩ 0)).toArray 41 (0, 0)) := X3.out
  have X8c : wq.heap[w4.heap.size]? = some (.cells (Stt.cs (Stt.mk r0 r1 r2 r3 sM ⟨SA, rt.length, Sc⟩ pc)).toArray 36 (0, 0)) := X8.out
  have Y8 := fun j => cell_of_row wq (w4.heap.size) j _ _ _ X8c
  have Y3 := fun j => cell_of_row wq (w.heap.size + 1) j _ _ _ X3c
  have F3 := fun j => frozen_of_row wq (w.heap.size + 1) j _ _ X3c
  simp only [Cnf.cs, Stt.cs] at Y8 Y3
  have X3 := Kept.mk X3c
  clear X3c X8c X8
  go_upto_region 24 with (fail)
  have x3 := stt_set7 (Cnf.mk ⟨r0, r1, r2, r3, ⟨mA, mem.length, mC⟩, ⟨sA, (rt ++ [lst]).length, sC⟩, pc⟩ ⟨A3, pb.length, c3⟩ ⟨qA, rsb.length, qC⟩ 0) (Stt.mk r0 r1 r2 r3 sM ⟨SA, rt.length, Sc⟩ pc) X3.out
  have hg7 := grown7 wq (w.heap.size + 1) (Stt.mk r0 r1 r2 r3 sM ⟨SA, rt.length, Sc⟩ pc)
  have x4 := (hg7.block (w.heap.size + 1 + 1) (by omega) (by intro h; injection h with h; omega)).trans X4.out
  have ra := RA.out.row ⟨⟨_, X3.out⟩, hg7⟩ (by decide) (by decide)
  have wb := below7 (g := w.heap.size + 1) (Stt.mk r0 r1 r2 r3 sM ⟨SA, rt.length, Sc⟩ pc) WB.out (by omega)
  have sz := hg7.size
  dsimp only at x3 x4 ra wb sz
  clear X3 X4 RA WB Y8 Y3 F3 hg7
  generalize (((((((wq.setCell ⟨w.heap.size + 1, 0, none⟩ _).setCell ⟨w.heap.size + 1, 1, none⟩ _).setCell ⟨w.heap.size + 1, 2, none⟩ _).setCell ⟨w.heap.size + 1, 3, none⟩ _).setCell ⟨w.heap.size + 1, 4, none⟩ _).setCell ⟨w.heap.size + 1, 5, none⟩ _).setCell ⟨w.heap.size + 1, 6, none⟩ _) = wr at *
  have RA := Kept.mk ra
  have WB := Kept.mk wb
  have X4 := Kept.mk x4
  have Y3 := fun j => cell_of_row wr (w.heap.size + 1) j _ _ _ x3
  have Y4 := fun j => cell_of_row wr (w.heap.size + 1 + 1) j _ _ _ x4
  have F4 := fun j => frozen_of_row wr (w.heap.size + 1 + 1) j _ _ x4
  simp only [Cnf.cs, Cnf.zero, Sl.none] at Y3 Y4
  clear x3 ra wb x4
  go_wp2_with fail
  have ra := RA.out.row ⟨⟨_, X4.out⟩, grown10 _ (w.heap.size + 1 + 1) (Cnf.mk (Stt.mk r0 r1 r2 r3 sM ⟨SA, rt.length, Sc⟩ pc) (Cnf.buf (Cnf.mk ⟨r0, r1, r2, r3, ⟨mA, mem.length, mC⟩, ⟨sA, (rt ++ [lst]).length, sC⟩, pc⟩ ⟨A3, pb.length, c3⟩ ⟨qA, rsb.length, qC⟩ 0)) (Cnf.rsb (Cnf.mk ⟨r0, r1, r2, r3, ⟨mA, mem.length, mC⟩, ⟨sA, (rt ++ [lst]).length, sC⟩, pc⟩ ⟨A3, pb.length, c3⟩ ⟨qA, rsb.length, qC⟩ 0)) (Cnf.fin (Cnf.mk ⟨r0, r1, r2, r3, ⟨mA, mem.length, mC⟩, ⟨sA, (rt ++ [lst]).length, sC⟩, pc⟩ ⟨A3, pb.length, c3⟩ ⟨qA, rsb.length, qC⟩ 0)))⟩ (by decide) (by decide)
  have wb := below10 (g := w.heap.size + 1 + 1) (Cnf.mk (Stt.mk r0 r1 r2 r3 sM ⟨SA, rt.length, Sc⟩ pc) (Cnf.buf (Cnf.mk ⟨r0, r1, r2, r3, ⟨mA, mem.length, mC⟩, ⟨sA, (rt ++ [lst]).length, sC⟩, pc⟩ ⟨A3, pb.length, c3⟩ ⟨qA, rsb.length, qC⟩ 0)) (Cnf.rsb (Cnf.mk ⟨r0, r1, r2, r3, ⟨mA, mem.length, mC⟩, ⟨sA, (rt ++ [lst]).length, sC⟩, pc⟩ ⟨A3, pb.length, c3⟩ ⟨qA, rsb.length, qC⟩ 0)) (Cnf.fin (Cnf.mk ⟨r0, r1, r2, r3, ⟨mA, mem.length, mC⟩, ⟨sA, (rt ++ [lst]).length, sC⟩, pc⟩ ⟨A3, pb.length, c3⟩ ⟨qA, rsb.length, qC⟩ 0))) WB.out (by omega)
  have x4 := q11 Cnf.zero (Cnf.mk (Stt.mk r0 r1 r2 r3 sM ⟨SA, rt.length, Sc⟩ pc) (Cnf.buf (Cnf.mk ⟨r0, r1, r2, r3, ⟨mA, mem.length, mC⟩, ⟨sA, (rt ++ [lst]).length, sC⟩, pc⟩ ⟨A3, pb.length, c3⟩ ⟨qA, rsb.length, qC⟩ 0)) (Cnf.rsb (Cnf.mk ⟨r0, r1, r2, r3, ⟨mA, mem.length, mC⟩, ⟨sA, (rt ++ [lst]).length, sC⟩, pc⟩ ⟨A3, pb.length, c3⟩ ⟨qA, rsb.length, qC⟩ 0)) (Cnf.fin (Cnf.mk ⟨r0, r1, r2, r3, ⟨mA, mem.length, mC⟩, ⟨sA, (rt ++ [lst]).length, sC⟩, pc⟩ ⟨A3, pb.length, c3⟩ ⟨qA, rsb.length, qC⟩ 0))) X4.out
  dsimp only at ra wb x4
  refine q0C _ [Cnf.v (Cnf.mk (Stt.mk r0 r1 r2 r3 sM ⟨SA, rt.length, Sc⟩ pc) (Cnf.buf (Cnf.mk ⟨r0, r1, r2, r3, ⟨mA, mem.length, mC⟩, ⟨sA, (rt ++ [lst]).length, sC⟩, pc⟩ ⟨A3, pb.length, c3⟩ ⟨qA, rsb.length, qC⟩ 0)) (Cnf.rsb (Cnf.mk ⟨r0, r1, r2, r3, ⟨mA, mem.length, mC⟩, ⟨sA, (rt ++ [lst]).length, sC⟩, pc⟩ ⟨A3, pb.length, c3⟩ ⟨qA, rsb.length, qC⟩ 0)) (Cnf.fin (Cnf.mk ⟨r0, r1, r2, r3, ⟨mA, mem.length, mC⟩, ⟨sA, (rt ++ [lst]).length, sC⟩, pc⟩ ⟨A3, pb.length, c3⟩ ⟨qA, rsb.length, qC⟩ 0))), .bool true] Try.results35 (.cons (.cell (cs := Cnf.cs (Cnf.mk (Stt.mk r0 r1 r2 r3 sM ⟨SA, rt.length, Sc⟩ pc) (Cnf.buf (Cnf.mk ⟨r0, r1, r2, r3, ⟨mA, mem.length, mC⟩, ⟨sA, (rt ++ [lst]).length, sC⟩, pc⟩ ⟨A3, pb.length, c3⟩ ⟨qA, rsb.length, qC⟩ 0)) (Cnf.rsb (Cnf.mk ⟨r0, r1, r2, r3, ⟨mA, mem.length, mC⟩, ⟨sA, (rt ++ [lst]).length, sC⟩, pc⟩ ⟨A3, pb.length, c3⟩ ⟨qA, rsb.length, qC⟩ 0)) (Cnf.fin (Cnf.mk ⟨r0, r1, r2, r3, ⟨mA, mem.length, mC⟩, ⟨sA, (rt ++ [lst]).length, sC⟩, pc⟩ ⟨A3, pb.length, c3⟩ ⟨qA, rsb.length, qC⟩ 0)))) (b := w.heap.size + 1 + 1) (off := 0) rfl rfl (q05 x4) Try.underlying41 rfl (by kernel_rfl)) (.cons (.tmp rfl) .nil)) rfl ?_
  rw [← HF.out]
  have ra := ra
  exact ⟨(Cnf.mk (Stt.mk r0 r1 r2 r3 sM ⟨SA, rt.length, Sc⟩ pc) (Cnf.buf (Cnf.mk ⟨r0, r1, r2, r3, ⟨mA, mem.length, mC⟩, ⟨sA, (rt ++ [lst]).length, sC⟩, pc⟩ ⟨A3, pb.length, c3⟩ ⟨qA, rsb.length, qC⟩ 0)) (Cnf.rsb (Cnf.mk ⟨r0, r1, r2, r3, ⟨mA, mem.length, mC⟩, ⟨sA, (rt ++ [lst]).length, sC⟩, pc⟩ ⟨A3, pb.length, c3⟩ ⟨qA, rsb.length, qC⟩ 0)) (Cnf.fin (Cnf.mk ⟨r0, r1, r2, r3, ⟨mA, mem.length, mC⟩, ⟨sA, (rt ++ [lst]).length, sC⟩, pc⟩ ⟨A3, pb.length, c3⟩ ⟨qA, rsb.length, qC⟩ 0))), rfl, ⟨⟨rfl, rfl, rfl, rfl, ra.r.xa, ra.r.xb, rfl⟩, ra.xd, ra.r.xc, rfl⟩, ⟨ra.r.ta, ra.r.tb, ra.td, ra.r.tc⟩, wb⟩
 have hF := HFO.out
 rw [if_neg (show ¬ (false = true ∨ kind = 12) by simp [hk12]), if_neg hk11, if_neg (show ¬ (kind = 1 ∨ kind = 2 ∨ kind = 4) by omega), if_neg hk3, if_neg hk8, if_neg hk9] at hF
 have HF := Kept.mk hF
 clear hF HFO HF1 HF2
 have k12 : (kind == 12) = false := by simp [hk12]
 have k11 : (kind == 11) = false := by simp [hk11]
 have k1 : (kind == 1) = false := by simp [hk1]
 have k2 : (kind == 2) = false := by simp [hk2]
 have k4 : (kind == 4) = false := by simp [hk4]
 have k3 : (kind == 3) = false := by simp [hk3]
 have k8 : (kind == 8) = false := by simp [hk8]
 have k9 : (kind == 9) = false := by simp [hk9]
 clear hk12 hk11 hk1 hk2 hk4 hk3 hk8 hk9
 go_upto_region 23 with (fail)
 have SQ : w.heap.size + 3 ≤ w9.heap.size := by have := WB.out.size; first | omega | (simp [World.setCell]; omega)
 have SQ8 : w4.heap.size < w9.heap.size := by first | omega | (simp [World.setCell]; omega)
 clear Y3 Y6 Y7 Y8 F3 F8
 generalize w9 = wq at *
 have X3c : wq.heap[w.heap.size + 1]? = some (.cells (Cnf.cs (Cnf.mk ⟨r0, r1, r2, r3, ⟨mA, mem.length, mC⟩, ⟨sA, stack.length, sC⟩, pc⟩ ⟨A3, pb.length, c3⟩ ⟨qA, rsb.length, qC⟩ 0)).toArray 41 (0, 0)) := X3.out
 have X8c : wq.heap[w4.heap.size]? = some (.cells (Stt.cs (Stt.mk r0 r1 r2 r3 sM sS pc)).toArray 36 (0, 0)) := X8.out
 have Y8 := fun j => cell_of_row wq (w4.heap.size) j _ _ _ X8c
 have Y3 := fun j => cell_of_row wq (w.heap.size + 1) j _ _ _ X3c
 have F3 := fun j => frozen_of_row wq (w.heap.size + 1) j _ _ X3c
 simp only [Cnf.cs, Stt.cs] at Y8 Y3
 have X3 := Kept.mk X3c
 clear X3c X8c X8
 go_upto_region 24 with (fail)
 have x3 := stt_set7 (Cnf.mk ⟨r0, r1, r2, r3, ⟨mA, mem.length, mC⟩, ⟨sA, stack.length, sC⟩, pc⟩ ⟨A3, pb.length, c3⟩ ⟨qA, rsb.length, qC⟩ 0) (Stt.mk r0 r1 r2 r3 sM sS pc) X3.out
 have hg7 := grown7 wq (w.heap.size + 1) (Stt.mk r0 r1 r2 r3 sM sS pc)
 have x4 := (hg7.block (w.heap.size + 1 + 1) (by omega) (by intro h; injection h with h; omega)).trans X4.out
 have ra := RA.out.row ⟨⟨_, X3.out⟩, hg7⟩ (by decide) (by decide)
 have wb := below7 (g := w.heap.size + 1) (Stt.mk r0 r1 r2 r3 sM sS pc) WB.out (by omega)
 have sz := hg7.size
 dsimp only at x3 x4 ra wb sz
 clear X3 X4 RA WB Y8 Y3 F3 hg7
 generalize (((((((wq.setCell ⟨w.heap.size + 1, 0, none⟩ _).setCell ⟨w.heap.size + 1, 1, none⟩ _).setCell ⟨w.heap.size + 1, 2, none⟩ _).setCell ⟨w.heap.size + 1, 3, none⟩ _).setCell ⟨w.heap.size + 1, 4, none⟩ _).setCell ⟨w.heap.size + 1, 5, none⟩ _).setCell ⟨w.heap.size + 1, 6, none⟩ _) = wr at *
 have RA := Kept.mk ra
 have WB := Kept.mk wb
 have X4 := Kept.mk x4
 have Y3 := fun j => cell_of_row wr (w.heap.size + 1) j _ _ _ x3
 have Y4 := fun j => cell_of_row wr (w.heap.size + 1 + 1) j _ _ _ x4
 have F4 := fun j => frozen_of_row wr (w.heap.size + 1 + 1) j _ _ x4
 simp only [Cnf.cs, Cnf.zero, Sl.none] at Y3 Y4
 clear x3 ra wb x4
 go_wp2_with fail
 have ra := RA.out.row ⟨⟨_, X4.out⟩, grown10 _ (w.heap.size + 1 + 1) (Cnf.mk (Stt.mk r0 r1 r2 r3 sM sS pc) (Cnf.buf (Cnf.mk ⟨r0, r1, r2, r3, ⟨mA, mem.length, mC⟩, ⟨sA, stack.length, sC⟩, pc⟩ ⟨A3, pb.length, c3⟩ ⟨qA, rsb.length, qC⟩ 0)) (Cnf.rsb (Cnf.mk ⟨r0, r1, r2, r3, ⟨mA, mem.length, mC⟩, ⟨sA, stack.length, sC⟩, pc⟩ ⟨A3, pb.length, c3⟩ ⟨qA, rsb.length, qC⟩ 0)) (Cnf.fin (Cnf.mk ⟨r0, r1, r2, r3, ⟨mA, mem.length, mC⟩, ⟨sA, stack.length, sC⟩, pc⟩ ⟨A3, pb.length, c3⟩ ⟨qA, rsb.length, qC⟩ 0)))⟩ (by decide) (by decide)
 have wb := below10 (g := w.heap.size + 1 + 1) (Cnf.mk (Stt.mk r0 r1 r2 r3 sM sS pc) (Cnf.buf (Cnf.mk ⟨r0, r1, r2, r3, ⟨mA, mem.length, mC⟩, ⟨sA, stack.length, sC⟩, pc⟩ ⟨A3, pb.length, c3⟩ ⟨qA, rsb.length, qC⟩ 0)) (Cnf.rsb (Cnf.mk ⟨r0, r1, r2, r3, ⟨mA, mem.length, mC⟩, ⟨sA, stack.length, sC⟩, pc⟩ ⟨A3, pb.length, c3⟩ ⟨qA, rsb.length, qC⟩ 0)) (Cnf.fin (Cnf.mk ⟨r0, r1, r2, r3, ⟨mA, mem.length, mC⟩, ⟨sA, stack.length, sC⟩, pc⟩ ⟨A3, pb.length, c3⟩ ⟨qA, rsb.length, qC⟩ 0))) WB.out (by omega)
 have x4 := q11 Cnf.zero (Cnf.mk (Stt.mk r0 r1 r2 r3 sM sS pc) (Cnf.buf (Cnf.mk ⟨r0, r1, r2, r3, ⟨mA, mem.length, mC⟩, ⟨sA, stack.length, sC⟩, pc⟩ ⟨A3, pb.length, c3⟩ ⟨qA, rsb.length, qC⟩ 0)) (Cnf.rsb (Cnf.mk ⟨r0, r1, r2, r3, ⟨mA, mem.length, mC⟩, ⟨sA, stack.length, sC⟩, pc⟩ ⟨A3, pb.length, c3⟩ ⟨qA, rsb.length, qC⟩ 0)) (Cnf.fin (Cnf.mk ⟨r0, r1, r2, r3, ⟨mA, mem.length, mC⟩, ⟨sA, stack.length, sC⟩, pc⟩ ⟨A3, pb.length, c3⟩ ⟨qA, rsb.length, qC⟩ 0))) X4.out
 dsimp only at ra wb x4
 refine q0C _ [Cnf.v (Cnf.mk (Stt.mk r0 r1 r2 r3 sM sS pc) (Cnf.buf (Cnf.mk ⟨r0, r1, r2, r3, ⟨mA, mem.length, mC⟩, ⟨sA, stack.length, sC⟩, pc⟩ ⟨A3, pb.length, c3⟩ ⟨qA, rsb.length, qC⟩ 0)) (Cnf.rsb (Cnf.mk ⟨r0, r1, r2, r3, ⟨mA, mem.length, mC⟩, ⟨sA, stack.length, sC⟩, pc⟩ ⟨A3, pb.length, c3⟩ ⟨qA, rsb.length, qC⟩ 0)) (Cnf.fin (Cnf.mk ⟨r0, r1, r2, r3, ⟨mA, mem.length, mC⟩, ⟨sA, stack.length, sC⟩, pc⟩ ⟨A3, pb.length, c3⟩ ⟨qA, rsb.length, qC⟩ 0))), .bool true] Try.results35 (.cons (.cell (cs := Cnf.cs (Cnf.mk (Stt.mk r0 r1 r2 r3 sM sS pc) (Cnf.buf (Cnf.mk ⟨r0, r1, r2, r3, ⟨mA, mem.length, mC⟩, ⟨sA, stack.length, sC⟩, pc⟩ ⟨A3, pb.length, c3⟩ ⟨qA, rsb.length, qC⟩ 0)) (Cnf.rsb (Cnf.mk ⟨r0, r1, r2, r3, ⟨mA, mem.length, mC⟩, ⟨sA, stack.length, sC⟩, pc⟩ ⟨A3, pb.length, c3⟩ ⟨qA, rsb.length, qC⟩ 0)) (Cnf.fin (Cnf.mk ⟨r0, r1, r2, r3, ⟨mA, mem.length, mC⟩, ⟨sA, stack.length, sC⟩, pc⟩ ⟨A3, pb.length, c3⟩ ⟨qA, rsb.length, qC⟩ 0)))) (b := w.heap.size + 1 + 1) (off := 0) rfl rfl (q05 x4) Try.underlying41 rfl (by kernel_rfl)) (.cons (.tmp rfl) .nil)) rfl ?_
 rw [← HF.out]
 have ra := ra
 exact ⟨(Cnf.mk (Stt.mk r0 r1 r2 r3 sM sS pc) (Cnf.buf (Cnf.mk ⟨r0, r1, r2, r3, ⟨mA, mem.length, mC⟩, ⟨sA, stack.length, sC⟩, pc⟩ ⟨A3, pb.length, c3⟩ ⟨qA, rsb.length, qC⟩ 0)) (Cnf.rsb (Cnf.mk ⟨r0, r1, r2, r3, ⟨mA, mem.length, mC⟩, ⟨sA, stack.length, sC⟩, pc⟩ ⟨A3, pb.length, c3⟩ ⟨qA, rsb.length, qC⟩ 0)) (Cnf.fin (Cnf.mk ⟨r0, r1, r2, r3, ⟨mA, mem.length, mC⟩, ⟨sA, stack.length, sC⟩, pc⟩ ⟨A3, pb.length, c3⟩ ⟨qA, rsb.length, qC⟩ 0))), rfl, ⟨⟨rfl, rfl, rfl, rfl, ra.r.xa, ra.r.xb, rfl⟩, ra.xd, ra.r.xc, rfl⟩, ⟨ra.r.ta, ra.r.tb, ra.td, ra.r.tc⟩, wb⟩
end
end Go.Proofs.Ytchldbkjapnlcaa
