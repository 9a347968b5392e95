/- The document's own answer, layer 15: an entry that is done: kinds 5, 7. -/
import Derived.Test.YtchldbkjapnlcaaJd
set_option linter.unusedVariables false
set_option linter.unusedSimpArgs false
namespace Go.Proofs.Ytchldbkjapnlcaa
open Go.RowKit
section
set_option maxRecDepth 100000 in
set_option maxHeartbeats 60000000 in
theorem do_atB (p : Prg) (il : List Inst) (c : Cnf) (m : Conf) (k : Nat) (hk : k < m.buf.length) (w : World) (hp : PIs w p il) (hW : p.W = 1 ∨ p.W = 2) (hop : ∀ y ∈ il, (y.kind = 1 ∨ y.kind = 5) → 1 ≤ y.op ∧ y.op ≤ 10) (hc : CfIs w c m)
  (hln : m.buf.length ≤ 1000) (hml : m.st.mem.length ≤ 1000) (hsl : m.st.stack.length ≤ 1000) (hcan : canOf p.W il m k = true) (hsub : (instAt il m.buf[k].pc).kind = 5 ∨ (instAt il m.buf[k].pc).kind = 7) :
  Calls Try.prog 70 #[p.v, c.v, .int .i64 (k : Int)] w (DoPost c (doOut p.W il m k { m.buf[k] with done := true } (instAt il m.buf[k].pc)).1 (doOut p.W il m k { m.buf[k] with done := true } (instAt il m.buf[k].pc)).2 w) := by
 have HC := Kept.mk hc
 have HP := Kept.mk hp
 have HCan := Kept.mk (fun w1 h1 h2 => can_any p il c m k w1 h1 hW h2 (by omega) (by omega))
 rw [hcan] at HCan
 have hci : openOf il m k = true ∧ canIn p.W il m k (instAt il m.buf[k].pc) = true := by
  unfold canOf at hcan
  split at hcan
  ·rw [Int.toNat_natCast, List.getElem?_eq_getElem hk] at hcan
   simp only at hcan
   split at hcan
   ·cases hcan
   ·exact ⟨by assumption, hcan⟩
  ·cases hcan
 have hfin : m.fin = 0 := by
  have ho := hci.1
  unfold openOf at ho
  simp only [Bool.and_eq_true, decide_eq_true_eq] at ho
  exact ho.1.1
 have hpcb := @inst_bound il m.buf[k].pc
 have hopx : (instAt il m.buf[k].pc).kind = 1 ∨ (instAt il m.buf[k].pc).kind = 5 → 1 ≤ (instAt il m.buf[k].pc).op ∧ (instAt il m.buf[k].pc).op ≤ 10 := by
  intro h
  have hb := hpcb (by omega)
  refine hop _ ?_ h
  unfold instAt
  rw [if_neg (by omega), List.getElem?_eq_getElem (show m.buf[k].pc.toNat < il.length by omega)]
  exact List.getElem_mem _
 have HT := Kept.mk (fun c1 m1 x w1 h1 h2 h3 => told_any p il c1 m1 k x w1 h1 hW h2 h3)
 have HM := Kept.mk (fun n w1 => q23 p.W n hW w1)
 have HMw : Kept (∀ (n : Int) (w : World), Calls Try.prog 73 #[.int .i64 p.W, .int .i64 (wrap64 n)] w fun en w' => en = .returned (.int .i64 (maskW p.W n)) ∧ w = w') := ⟨fun n w => by have := q23 p.W (wrap64 n) hW w; rwa [q32 p.W n hW] at this⟩
 have HD := Kept.mk (fun op a b h w1 => do1 p.W op a b hW h w1)
 have hpn := Kept.mk hp.n
 have hpm := hp.m
 clear hcan hci hop hp hW
 obtain ⟨⟨r0, r1, r2, r3, ⟨mA, mN, mC⟩, ⟨sA, sN, sC⟩, pc⟩, ⟨bA, bN, bC⟩, ⟨qA, qN, qC⟩, fin⟩ := c
 obtain ⟨⟨q0, q1, q2, q3, mem, stack, qc⟩, l, rsb, qf⟩ := m
 obtain ⟨⟨h0, h1, h2, h3, ⟨hmn, hmc, hmr⟩, ⟨hsn, hsc, hsr⟩, hpc⟩, ⟨hbn, hbc, hbr⟩, ⟨hqn, hqc, hqr⟩, hf⟩ := hc
 simp only at h0 h1 h2 h3 hpc hf hbn hbc hbr hln hmn hmc hmr hml hsn hsc hsr hsl hfin hk
 subst h0 h1 h2 h3 hpc hf hbn hmn hsn
 subst hfin
 simp only at HCan hsub hpcb hopx HC ⊢
 have HMR := Kept.mk hmr
 have HSR := Kept.mk hsr
 have HBR := Kept.mk hbr
 have HQR := Kept.mk (show RdIs w ⟨qA, qN, qC⟩ rsb from ⟨hqn, hqc, hqr⟩)
 clear hmr hsr hbr hqn hqc hqr
 generalize hx : instAt il l[k].pc = x at hsub hpcb hopx ⊢
 have HAT : Kept (∀ w1, PIs w1 p il → Calls Try.prog 62 #[p.v, .int .i64 l[k].pc] w1 fun en w' => en = .returned x.v ∧ Below w1.heap.size w1 w') := ⟨fun w1 h => by rw [← hx]; exact at7 p il l[k].pc w1 h⟩
 clear hx
 generalize hOUT : doOut p.W il ⟨⟨r0, r1, r2, r3, mem, stack, pc⟩, l, rsb, 0⟩ k { l[k] with done := true } x = OUT
 have HOUT := Kept.mk hOUT
 clear hOUT
 go_enter Try.func70, Try.ntmps70
 go_wp2_with fail
 have HB := Kept.mk (((q00 w (.cells p.cs.toArray 33)).alloc (by simp) (.cells (Cnf.cs ⟨⟨r0, r1, r2, r3, ⟨mA, mem.length, mC⟩, ⟨sA, stack.length, sC⟩, pc⟩, ⟨bA, l.length, bC⟩, ⟨qA, qN, qC⟩, 0⟩).toArray 41)).alloc (by simp; omega) (.cells Cnf.zero.cs.toArray 41))
 refine (HCan.out _ (HP.out.past HB.out) (HC.out.past HB.out)).mono ?_
 rintro en w1 ⟨rfl, b1⟩
 have W1 := Kept.mk (HB.out.trans (b1.mono HB.out.size))
 have X3 := (b1.block w.heap.size (by simp <;> omega)).trans ((heap_alloc_old _ _ (by simp; omega)).trans ((heap_alloc_old _ _ (by simp)).trans (heap_alloc_new w (.cells p.cs.toArray 33))))
 have X4 := (b1.block (w.heap.size + 1) (by simp <;> omega)).trans ((heap_alloc_old _ _ (by simp)).trans (heap_alloc2_new w (.cells p.cs.toArray 33) (.cells (Cnf.cs ⟨⟨r0, r1, r2, r3, ⟨mA, mem.length, mC⟩, ⟨sA, stack.length, sC⟩, pc⟩, ⟨bA, l.length, bC⟩, ⟨qA, qN, qC⟩, 0⟩).toArray 41)))
 have X6 := (b1.block (w.heap.size + 1 + 1) (by simp <;> omega)).trans (q06 (o := (.cells Cnf.zero.cs.toArray 41)) (by simp))
 have S1 : w.heap.size + 3 ≤ w1.heap.size := by have := b1.size; simp at this; omega
 have Y4 := fun j => cell_of_row w1 (w.heap.size + 1) j _ _ _ X4
 simp only [Cnf.cs] at Y4
 have K3 := Kept.mk X3
 have K4 := Kept.mk X4
 have K6 := Kept.mk X6
 have y7 : ∀ o, (w1.alloc o).cell? ⟨w.heap.size + 1, 7, none⟩ = some (.slice bA l.length bC) := fun o => ((q00 w1 o).cell (p := ⟨w.heap.size + 1, 7, none⟩) (by show w.heap.size + 1 < _; omega)).trans (by rw [Y4]; rfl)
 clear X3 X4 X6 b1
 go_wp2_with (at_builtin; go_must (refine append_ents _ rfl (.tmp 33) (.tmp 35) rfl w1.heap.size rfl (OwnE.made (Nat.le_refl _)) (m := l) rfl ((HBR.out.past W1.out).past (q00 _ _)) (by simp; omega) (by simp) ?_))
 intro v2 w2 h2 hg2 b2
 obtain ⟨g, hv2, hgB, hgl, hcel, hfz⟩ : ∃ g, (∃ c2, v2 = .slice (some ⟨g, 0, none⟩) l.length c2 ∧ l.length ≤ c2) ∧ w1.heap.size ≤ g ∧ g < w2.heap.size ∧ CellsAt w2 g (k * 8) l[k].cs ∧ ∀ j, w2.frozen? ⟨g, j, none⟩ = false := by
  obtain ⟨A2, c2, rfl, hc2, -⟩ := h2.shape
  obtain ⟨g, rfl, a1, a2, a3, a4⟩ := h2.el hk
  exact ⟨g, ⟨c2, rfl, hc2⟩, a1, a2, a3, a4⟩
 obtain ⟨c2, rfl, hc2⟩ := hv2
 have b2' := (q00 w1 (.cells #[] 55)).trans (b2.mono (Nat.le_refl _))
 have W2 := Kept.mk (W1.out.trans (b2'.mono W1.out.size))
 have X3 := q01 K3.out b2'
 have X4 := q01 K4.out b2'
 have X6 := q01 K6.out b2'
 have Y4' := fun j => cell_of_row w2 (w.heap.size + 1) j _ _ _ X4
 simp only [Cnf.cs] at Y4'
 have f7 := frozen_of_row w2 (w.heap.size + 1) 7 _ _ X4
 have c5 := hcel 5 (.bool l[k].done) rfl
 have f5 := hfz (k * 8 + 5)
 have H2 := Kept.mk h2
 have S2 : w1.heap.size ≤ w2.heap.size := b2'.size
 have hne4 : g ≠ w.heap.size + 1 := by omega
 clear y7 Y4 K3 K4 K6 hg2 b2 b2' hcel hfz h2
 have K3 := Kept.mk X3
 have K4 := Kept.mk X4
 have K6 := Kept.mk X6
 clear X3 X4 X6
 go_wp2_with fail
 have hgw : w.heap.size + 3 ≤ g := by omega
 have W3 := Kept.mk ((W2.out.setCell (p := ⟨w.heap.size + 1, 7, none⟩) (by show w.heap.size ≤ w.heap.size + 1; omega) (.slice (some ⟨g, 0, none⟩) l.length c2)).setCell (p := ⟨g, k * 8 + 5, none⟩) (by show w.heap.size ≤ g; omega) (.bool true))
 have X3 := q03 (p := ⟨g, k * 8 + 5, none⟩) (u := .bool true) (q03 (p := ⟨w.heap.size + 1, 7, none⟩) (u := .slice (some ⟨g, 0, none⟩) l.length c2) K3.out (by simp)) (by show g ≠ _; omega)
 have X4 := q03 (p := ⟨g, k * 8 + 5, none⟩) (u := .bool true) (heap_setCell_same w2 (w.heap.size + 1) 7 _ _ (.slice (some ⟨g, 0, none⟩) l.length c2) K4.out) (by show g ≠ _; omega)
 rw [show (Cnf.cs ⟨⟨r0, r1, r2, r3, ⟨mA, mem.length, mC⟩, ⟨sA, stack.length, sC⟩, pc⟩, ⟨bA, l.length, bC⟩, ⟨qA, qN, qC⟩, 0⟩).toArray.setIfInBounds 7 (.slice (some ⟨g, 0, none⟩) l.length c2) = (Cnf.cs ⟨⟨r0, r1, r2, r3, ⟨mA, mem.length, mC⟩, ⟨sA, stack.length, sC⟩, pc⟩, ⟨some ⟨g, 0, none⟩, l.length, c2⟩, ⟨qA, qN, qC⟩, 0⟩).toArray from rfl] at X4
 have X6 := q03 (p := ⟨g, k * 8 + 5, none⟩) (u := .bool true) (q03 (p := ⟨w.heap.size + 1, 7, none⟩) (u := .slice (some ⟨g, 0, none⟩) l.length c2) K6.out (by simp)) (by show g ≠ _; omega)
 have h3 := (OwnE.far H2.out (p := ⟨w.heap.size + 1, 7, none⟩) (by show w.heap.size + 1 < _; omega) (.slice (some ⟨g, 0, none⟩) l.length c2)).setAt rfl hk (j := 5) (u := .bool true) (e' := { l[k] with done := true }) (by omega) rfl
 have hs3 : g < ((w2.setCell ⟨w.heap.size + 1, 7, none⟩ (.slice (some ⟨g, 0, none⟩) l.length c2)).setCell ⟨g, k * 8 + 5, none⟩ (.bool true)).heap.size := by simpa [World.setCell] using hgl
 generalize hE : ({ l[k] with done := true } : Ent) = e1 at h3
 have hepc : e1.pc = l[k].pc := by rw [← hE]
 generalize (w2.setCell ⟨w.heap.size + 1, 7, none⟩ (.slice (some ⟨g, 0, none⟩) l.length c2)).setCell ⟨g, k * 8 + 5, none⟩ (.bool true) = w3 at *
 have HE1 := Kept.mk hE
 have HEP := Kept.mk hepc
 have H3 := Kept.mk h3
 have HPX := q24 X3
 obtain ⟨g', hge, -, -, hcel, -⟩ := h3.el (k := k) (by simpa using hk)
 injection hge with hge
 injection hge with hge
 subst hge
 rw [List.getElem_set_self] at hcel
 have HEX := hcel.kept hs3
 rw [← hepc] at HAT
 have K3 := Kept.mk X3
 have K4 := Kept.mk X4
 have K6 := Kept.mk X6
 clear hE hepc h3 hcel X3 X4 X6 Y4' f7 c5 f5 H2 W2 hne4 hgl
 refine q35 [] [(7, 6, BoxHas (w3.heap.size) 53 x.cs)] (w3.heap.size) (G := fun _ => True) (ts := [
   .is (p.v),
   .is (Value.pointer (some ⟨g, k * 8, none⟩)),
   .is (Value.pointer (some ⟨g, k * 8, none⟩)),
   .is (Value.pointer (some ⟨g, k * 8, none⟩)),
   .is (Value.int .i64 (e1.pc)),
   .draws (x.v),
   .makes (IsBox (w3.heap.size) 53 9),
   .sets (BoxStep 53 9)])
  (fin := []) (cs := [(7, 6)]) (by simp) (by kernel_rfl) ?lg (by kernel_rfl) rfl (by kernel_rfl) (by kernel_rfl)
  ⟨trivial, trivial, trivial, trivial, trivial, trivial, IsBox.grows, (fun _ _ _ _ _ => trivial), trivial⟩ (fun _ _ _ _ => trivial) ?cs (by simp) trivial
  ⟨?_, ?_, ?_, ?_, ?_, ?_, ?_, ?_, trivial⟩ ?_
 case lg =>
  intro q hq
  simp only [List.mem_cons, List.not_mem_nil, or_false] at hq
  rcases hq with rfl
  ·exact BoxHas.grows
 case cs =>
  intro p hp v w1 w2 hG hR hE
  simp only [List.mem_cons, List.not_mem_nil, or_false] at hp
  rcases hp with rfl
  ·exact IsBox.kept hR hE
 ·intro vals w1 hB _ _
  refine q02 rfl ?_ ⟨q04 rfl, q10 (by simp) rfl⟩
  exact q09 rfl (b := w.heap.size) (off := 0) (by kernel_rfl) p.cs (HPX.out w1 hB) Try.underlying33 rfl (by kernel_rfl)
 ·intro vals w1 hB _ _
  refine q02 rfl ?_ ⟨q04 rfl, q10 (by simp) rfl⟩
  kernel_rfl
 ·intro vals w1 hB _ _
  refine q02 rfl ?_ ⟨q04 rfl, q10 (by simp) rfl⟩
  kernel_rfl
 ·intro vals w1 hB _ _
  refine q02 rfl ?_ ⟨q04 rfl, q10 (by simp) rfl⟩
  kernel_rfl
 ·intro vals w1 hB _ _
  refine q02 rfl ?_ ⟨q04 rfl, q10 (by simp) rfl⟩
  exact q0A rfl (by kernel_rfl) ((HEX.out w1 hB) 0 _ rfl) Try.underlying3 rfl
 ·intro vals w1 hB _ _
  refine q12 (f := 62) (args := #[p.v, .int .i64 (e1.pc)]) (w1 := w1) rfl (by kernel_rfl) ?_
  refine (HAT.out w1 ((HP.out.past W3.out).past hB)).mono ?_
  rintro e1 w2 ⟨rfl, h2⟩
  exact ⟨_, rfl, q18 rfl h2, q10 (by simp) rfl⟩
 ·intro vals w1 hB _ _
  refine q1D (v := .pointer (some ⟨w1.heap.size, 0, none⟩)) (w' := w1.alloc (.cells #[Value.int .i64 (0), Value.int .i64 (0), Value.int .i64 (0), Value.bool false, Value.int .i64 (0), Value.bool false, Value.int .i64 (0), Value.string ⟨#[]⟩, Value.int .i64 (0)] 53)) rfl (by kernel_rfl) ⟨q21 rfl ⟨w1.heap.size, _, rfl, (by have := hB.size; omega), rfl, heap_alloc_new w1 _⟩ (q00 _ _), q10 (by simp) rfl⟩
 ·intro vals w1 hB _ hd
  have d0 : IsBox (w3.heap.size) 53 9 (vals 6) w1 := hd 6 (by kernel_rfl)
  clear hd
  obtain ⟨b0, cs0, e0, hb0, hn0, hh0⟩ := d0
  obtain ⟨w2, hr2, hw2, hg2⟩ := q1B (P := Try.prog) (ty := 53) (x.v) x.cs rfl hh0 hn0 rfl (by kernel_rfl)
  refine q14 (w' := w2) rfl ?_ ⟨q15 rfl (hB.grown hg2 (by have := hB.size; omega) (fun k hk => by injection hk with hk; omega)) trivial hg2.size ⟨b0, _, ⟨cs0, hn0, hh0⟩, rfl, hw2, hg2⟩, tellx_turns (by simp) ?_⟩
  ·rw [q0D e0]
   exact q13 rfl (by kernel_rfl) (by kernel_rfl) hr2
  ·intro q hq
   simp only [List.mem_cons, List.not_mem_nil, or_false] at hq
   rcases hq with rfl
   ·exact ⟨fun _ => ⟨b0, e0, hb0, hw2⟩, fun h => absurd rfl h⟩
 intro vals w5 b5 _ _ hlk hr
 obtain ⟨bx10, ebx10, hbx10, HBX10⟩ : BoxHas (w3.heap.size) 53 x.cs (vals 6) w5 := hlk _ (List.mem_cons_self ..)
 clear hlk
 clear hr
 simp only [fillT, Tell.is, Tell.draws, Tell.makes, Act.put, List.setIfInBounds_toArray, List.set_cons_zero, List.set_cons_succ, ebx10]
 clear ebx10
 have W5 := Kept.mk (W3.out.trans (b5.mono W3.out.size))
 have X3 := q01 K3.out b5
 have X4 := q01 K4.out b5
 have X6 := q01 K6.out b5
 have H5 := Kept.mk (H3.out.past b5)
 have S5 : g < w5.heap.size := Nat.lt_of_lt_of_le hs3 b5.size
 have S15 : w3.heap.size ≤ bx10 := hbx10
 have Y3 := fun j => cell_of_row w5 w.heap.size j _ _ _ X3
 have Y4 := fun j => cell_of_row w5 (w.heap.size + 1) j _ _ _ X4
 have Y10 := fun j => cell_of_row w5 bx10 j _ _ _ HBX10
 simp only [Prg.cs, Cnf.cs, Inst.cs] at Y3 Y4 Y10
 clear K3 K4 K6
 have K3 := Kept.mk X3
 have K4 := Kept.mk X4
 have K6 := Kept.mk X6
 have K10 := Kept.mk HBX10
 clear X3 X4 X6 HBX10 b5 HPX HEX H3 hbx10
 have CF5 : Kept (CfIs w5 ⟨⟨r0, r1, r2, r3, ⟨mA, mem.length, mC⟩, ⟨sA, stack.length, sC⟩, pc⟩, ⟨some ⟨g, 0, none⟩, l.length, c2⟩, ⟨qA, qN, qC⟩, 0⟩ ⟨⟨r0, r1, r2, r3, mem, stack, pc⟩, l.set k e1, rsb, 0⟩) := ⟨⟨rfl, rfl, rfl, rfl, ⟨rfl, hmc, HMR.out.past W5.out⟩, ⟨rfl, hsc, HSR.out.past W5.out⟩, rfl⟩, by have := OwnE.is (s := ⟨some ⟨g, 0, none⟩, l.length, c2⟩) H5.out; exact this, HQR.out.past W5.out, rfl⟩
 go_wp2_with fail
 refine (HT.out ⟨⟨r0, r1, r2, r3, ⟨mA, mem.length, mC⟩, ⟨sA, stack.length, sC⟩, pc⟩, ⟨some ⟨g, 0, none⟩, l.length, c2⟩, ⟨qA, qN, qC⟩, 0⟩ ⟨⟨r0, r1, r2, r3, mem, stack, pc⟩, l.set k e1, rsb, 0⟩ x _ (HP.out.past W5.out) CF5.out (by simp; omega)).mono ?_
 rintro en w6 ⟨rfl, b6⟩
 have W6 := Kept.mk (W5.out.trans (b6.mono W5.out.size))
 have X3 := q01 K3.out b6
 have X4 := q01 K4.out b6
 have X6 := q01 K6.out b6
 have X10 := q01 K10.out b6
 have H6 := Kept.mk (H5.out.past b6)
 have S6 : g < w6.heap.size := Nat.lt_of_lt_of_le S5 b6.size
 have CF6 := Kept.mk (CF5.out.past b6)
 clear Y3 Y4 Y10 K3 K4 K6 K10 b6 H5 CF5
 have Y3 := fun j => cell_of_row w6 w.heap.size j _ _ _ X3
 have Y4 := fun j => cell_of_row w6 (w.heap.size + 1) j _ _ _ X4
 have Y6 := fun j => cell_of_row w6 (w.heap.size + 1 + 1) j _ _ _ X6
 have F6 := fun j => frozen_of_row w6 (w.heap.size + 1 + 1) j _ _ X6
 have Y10 := fun j => cell_of_row w6 bx10 j _ _ _ X10
 simp only [Prg.cs, Cnf.cs, Inst.cs, Cnf.zero, Sl.none] at Y3 Y4 Y6 Y10
 have K3 := Kept.mk X3
 have K4 := Kept.mk X4
 have K6 := Kept.mk X6
 have K10 := Kept.mk X10
 clear X3 X4 X6 X10
 obtain ⟨g', hge, -, -, hcel, hfz⟩ := H6.out.el (k := k) (by simpa using hk)
 injection hge with hge
 injection hge with hge
 subst hge
 rw [List.getElem_set_self] at hcel
 have hO := HOUT.out
 clear HOUT
 rw [HE1.out] at hO
 unfold doOut at hO
 simp only at hO
 generalize aOf p.W il ⟨⟨r0, r1, r2, r3, mem, stack, pc⟩, l.set k e1, rsb, 0⟩ k x = a at hO ⊢
 generalize bOf p.W il ⟨⟨r0, r1, r2, r3, mem, stack, pc⟩, l.set k e1, rsb, 0⟩ k x = b at hO ⊢
 generalize dOf il ⟨⟨r0, r1, r2, r3, mem, stack, pc⟩, l.set k e1, rsb, 0⟩ k x = d at hO ⊢
 obtain ⟨a1, a2⟩ := a
 obtain ⟨b1, b2⟩ := b
 obtain ⟨d1, d2⟩ := d
 simp only at hO ⊢
 have HO := Kept.mk hO
 clear hO
 have hng3 : g ≠ w.heap.size := by omega
 have hng4 : g ≠ w.heap.size + 1 := by omega
 have hng6 : g ≠ w.heap.size + 1 + 1 := by omega
 obtain ⟨NB, hNB⟩ : ∃ NB, w1.heap.size = NB := ⟨_, rfl⟩
 rw [hNB] at S1 S2 hgB H6
 obtain ⟨kind, op, xd, ar, an, br, bn, name, target⟩ := x
 simp only at HO Y10 hsub hpcb hopx ⊢
 rcases hsub with rfl | rfl
 ·-- a branch
  have hp0 : 0 ≤ e1.pc := by have := hpcb (by omega); have := HEP.out; omega
  have hp1 : e1.pc ≤ 1000 := by have := hpcb (by omega); have := HEP.out; have := hpn.out; omega
  have HO0 := Kept.mk ((((HO.out.symm.trans (if_neg (by omega))).trans (if_neg (by omega))).trans (if_neg (by omega))).trans (if_neg (by omega)))
  have HOB := Kept.mk (HO0.out.trans (if_pos rfl))
  have c0 := hcel 0 (.int .i64 e1.pc) rfl
  rw [Nat.add_zero] at c0
  clear hcel hfz HO HO0
  go_wp2_with fail
  refine (HD.out op a1 b1 (hopx (by simp)) _).mono ?_
  rintro en w' ⟨rfl, rfl⟩
  by_cases hz0 : doW p.W op a1 b1 = 0
  ·have HO1 := Kept.mk (HOB.out.trans (by rw [if_pos hz0]))
   rw [hz0]
   clear HOB hz0
   go_wp2_with fail
   refine (goes_any ⟨⟨r0, r1, r2, r3, ⟨mA, mem.length, mC⟩, ⟨sA, stack.length, sC⟩, pc⟩, ⟨some ⟨g, 0, none⟩, l.length, c2⟩, ⟨qA, qN, qC⟩, 0⟩ (l.set k e1) k (by simpa using hk) (e1.pc + 1) _ NB (by omega) H6.out (by simp; omega)).mono ?_
   rintro en w7 ⟨ov, rfl, g2, g5, g6⟩
   have g6 : w6.grownBy w7 (some g) := g6
   have X7 := (g6.block (w.heap.size + 1 + 1) (by omega) (by intro h; injection h with h; omega)).trans K6.out
   have S7 : w6.heap.size ≤ w7.heap.size := g6.size
   have Y7 : ∀ o j, (w7.alloc o).cell? ⟨w.heap.size + 1 + 1, j, none⟩ = (Cnf.cs Cnf.zero).toArray[j]? := fun o j => ((q00 w7 o).cell (p := ⟨w.heap.size + 1 + 1, j, none⟩) (by show w.heap.size + 1 + 1 < _; omega)).trans (cell_of_row w7 (w.heap.size + 1 + 1) j _ _ _ X7)
   have F7 : ∀ o j, (w7.alloc o).frozen? ⟨w.heap.size + 1 + 1, j, none⟩ = false := fun o j => ((q00 w7 o).frozen (p := ⟨w.heap.size + 1 + 1, j, none⟩) (by show w.heap.size + 1 + 1 < _; omega)).trans (frozen_of_row w7 (w.heap.size + 1 + 1) j _ _ X7)
   simp only [Cnf.cs, Cnf.zero, Sl.none] at Y7
   have X8 := Kept.mk (q01 X7 (q00 w7 (.cells (Cnf.cs ⟨⟨r0, r1, r2, r3, ⟨mA, mem.length, mC⟩, ⟨sA, stack.length, sC⟩, goesPc (l.set k e1) k (e1.pc + 1) pc⟩, ⟨some ⟨g, 0, none⟩, (goesBuf (l.set k e1) k (e1.pc + 1)).length, c2⟩, ⟨qA, qN, qC⟩, 0⟩).toArray 41)))
   have H8 := Kept.mk (OwnE.past (show OwnE w7 NB (.slice (some ⟨g, 0, none⟩) (goesBuf (l.set k e1) k (e1.pc + 1)).length c2) (goesBuf (l.set k e1) k (e1.pc + 1)) from g2) (q00 w7 (.cells (Cnf.cs ⟨⟨r0, r1, r2, r3, ⟨mA, mem.length, mC⟩, ⟨sA, stack.length, sC⟩, goesPc (l.set k e1) k (e1.pc + 1) pc⟩, ⟨some ⟨g, 0, none⟩, (goesBuf (l.set k e1) k (e1.pc + 1)).length, c2⟩, ⟨qA, qN, qC⟩, 0⟩).toArray 41)))
   have W8 := Kept.mk ((W6.out.trans (g5.mono (by omega))).trans ((q00 w7 (.cells (Cnf.cs ⟨⟨r0, r1, r2, r3, ⟨mA, mem.length, mC⟩, ⟨sA, stack.length, sC⟩, goesPc (l.set k e1) k (e1.pc + 1) pc⟩, ⟨some ⟨g, 0, none⟩, (goesBuf (l.set k e1) k (e1.pc + 1)).length, c2⟩, ⟨qA, qN, qC⟩, 0⟩).toArray 41)).mono (by have := W6.out.size; omega)))
   clear Y3 Y4 Y6 Y10 F6 X7 g2 g5 g6
   go_wp2_with fail
   have hown := (own10 (g := w.heap.size + 1 + 1) ⟨⟨r0, r1, r2, r3, ⟨mA, mem.length, mC⟩, ⟨sA, stack.length, sC⟩, goesPc (l.set k e1) k (e1.pc + 1) pc⟩, ⟨some ⟨g, 0, none⟩, (goesBuf (l.set k e1) k (e1.pc + 1)).length, c2⟩, ⟨qA, qN, qC⟩, 0⟩ H8.out (by omega)).lower (show w.heap.size ≤ NB by omega)
   have hbel := below10 (g := w.heap.size + 1 + 1) ⟨⟨r0, r1, r2, r3, ⟨mA, mem.length, mC⟩, ⟨sA, stack.length, sC⟩, goesPc (l.set k e1) k (e1.pc + 1) pc⟩, ⟨some ⟨g, 0, none⟩, (goesBuf (l.set k e1) k (e1.pc + 1)).length, c2⟩, ⟨qA, qN, qC⟩, 0⟩ W8.out (by omega)
   have hres := q11 Cnf.zero ⟨⟨r0, r1, r2, r3, ⟨mA, mem.length, mC⟩, ⟨sA, stack.length, sC⟩, goesPc (l.set k e1) k (e1.pc + 1) pc⟩, ⟨some ⟨g, 0, none⟩, (goesBuf (l.set k e1) k (e1.pc + 1)).length, c2⟩, ⟨qA, qN, qC⟩, 0⟩ X8.out
   dsimp only at hown hbel hres
   refine q0C _ [Cnf.v ⟨⟨r0, r1, r2, r3, ⟨mA, mem.length, mC⟩, ⟨sA, stack.length, sC⟩, goesPc (l.set k e1) k (e1.pc + 1) pc⟩, ⟨some ⟨g, 0, none⟩, (goesBuf (l.set k e1) k (e1.pc + 1)).length, c2⟩, ⟨qA, qN, qC⟩, 0⟩, ov, .bool true] Try.results70 (.cons (.cell (cs := Cnf.cs ⟨⟨r0, r1, r2, r3, ⟨mA, mem.length, mC⟩, ⟨sA, stack.length, sC⟩, goesPc (l.set k e1) k (e1.pc + 1) pc⟩, ⟨some ⟨g, 0, none⟩, (goesBuf (l.set k e1) k (e1.pc + 1)).length, c2⟩, ⟨qA, qN, qC⟩, 0⟩) (b := w.heap.size + 1 + 1) (off := 0) rfl rfl (q05 hres) Try.underlying41 rfl (by kernel_rfl)) (.cons (.tmp rfl) (.cons (.tmp rfl) .nil))) rfl ?_
   refine ⟨⟨⟨r0, r1, r2, r3, ⟨mA, mem.length, mC⟩, ⟨sA, stack.length, sC⟩, goesPc (l.set k e1) k (e1.pc + 1) pc⟩, ⟨some ⟨g, 0, none⟩, (goesBuf (l.set k e1) k (e1.pc + 1)).length, c2⟩, ⟨qA, qN, qC⟩, 0⟩, _, rfl, by rw [HO1.out], ?_, rfl, rfl, hbel⟩
   rw [HO1.out]
   exact hown
  ·have HO1 := Kept.mk (HOB.out.trans (by rw [if_neg hz0]))
   have hz1 : (doW p.W op a1 b1 != 0) = true := by simp [hz0]
   clear HOB hz0
   go_wp2_with fail
   refine (goes_any ⟨⟨r0, r1, r2, r3, ⟨mA, mem.length, mC⟩, ⟨sA, stack.length, sC⟩, pc⟩, ⟨some ⟨g, 0, none⟩, l.length, c2⟩, ⟨qA, qN, qC⟩, 0⟩ (l.set k e1) k (by simpa using hk) target _ NB (by omega) H6.out (by simp; omega)).mono ?_
   rintro en w7 ⟨ov, rfl, g2, g5, g6⟩
   have g6 : w6.grownBy w7 (some g) := g6
   have X7 := (g6.block (w.heap.size + 1 + 1) (by omega) (by intro h; injection h with h; omega)).trans K6.out
   have S7 : w6.heap.size ≤ w7.heap.size := g6.size
   have Y7 : ∀ o j, (w7.alloc o).cell? ⟨w.heap.size + 1 + 1, j, none⟩ = (Cnf.cs Cnf.zero).toArray[j]? := fun o j => ((q00 w7 o).cell (p := ⟨w.heap.size + 1 + 1, j, none⟩) (by show w.heap.size + 1 + 1 < _; omega)).trans (cell_of_row w7 (w.heap.size + 1 + 1) j _ _ _ X7)
   have F7 : ∀ o j, (w7.alloc o).frozen? ⟨w.heap.size + 1 + 1, j, none⟩ = false := fun o j => ((q00 w7 o).frozen (p := ⟨w.heap.size + 1 + 1, j, none⟩) (by show w.heap.size + 1 + 1 < _; omega)).trans (frozen_of_row w7 (w.heap.size + 1 + 1) j _ _ X7)
   simp only [Cnf.cs, Cnf.zero, Sl.none] at Y7
   have X8 := Kept.mk (q01 X7 (q00 w7 (.cells (Cnf.cs ⟨⟨r0, r1, r2, r3, ⟨mA, mem.length, mC⟩, ⟨sA, stack.length, sC⟩, goesPc (l.set k e1) k target pc⟩, ⟨some ⟨g, 0, none⟩, (goesBuf (l.set k e1) k target).length, c2⟩, ⟨qA, qN, qC⟩, 0⟩).toArray 41)))
   have H8 := Kept.mk (OwnE.past (show OwnE w7 NB (.slice (some ⟨g, 0, none⟩) (goesBuf (l.set k e1) k target).length c2) (goesBuf (l.set k e1) k target) from g2) (q00 w7 (.cells (Cnf.cs ⟨⟨r0, r1, r2, r3, ⟨mA, mem.length, mC⟩, ⟨sA, stack.length, sC⟩, goesPc (l.set k e1) k target pc⟩, ⟨some ⟨g, 0, none⟩, (goesBuf (l.set k e1) k target).length, c2⟩, ⟨qA, qN, qC⟩, 0⟩).toArray 41)))
   have W8 := Kept.mk ((W6.out.trans (g5.mono (by omega))).trans ((q00 w7 (.cells (Cnf.cs ⟨⟨r0, r1, r2, r3, ⟨mA, mem.length, mC⟩, ⟨sA, stack.length, sC⟩, goesPc (l.set k e1) k target pc⟩, ⟨some ⟨g, 0, none⟩, (goesBuf (l.set k e1) k target).length, c2⟩, ⟨qA, qN, qC⟩, 0⟩).toArray 41)).mono (by have := W6.out.size; omega)))
   clear Y3 Y4 Y6 Y10 F6 X7 g2 g5 g6
   go_wp2_with fail
   have hown := (own10 (g := w.heap.size + 1 + 1) ⟨⟨r0, r1, r2, r3, ⟨mA, mem.length, mC⟩, ⟨sA, stack.length, sC⟩, goesPc (l.set k e1) k target pc⟩, ⟨some ⟨g, 0, none⟩, (goesBuf (l.set k e1) k target).length, c2⟩, ⟨qA, qN, qC⟩, 0⟩ H8.out (by omega)).lower (show w.heap.size ≤ NB by omega)
   have hbel := below10 (g := w.heap.size + 1 + 1) ⟨⟨r0, r1, r2, r3, ⟨mA, mem.length, mC⟩, ⟨sA, stack.length, sC⟩, goesPc (l.set k e1) k target pc⟩, ⟨some ⟨g, 0, none⟩, (goesBuf (l.set k e1) k target).length, c2⟩, ⟨qA, qN, qC⟩, 0⟩ W8.out (by omega)
   have hres := q11 Cnf.zero ⟨⟨r0, r1, r2, r3, ⟨mA, mem.length, mC⟩, ⟨sA, stack.length, sC⟩, goesPc (l.set k e1) k target pc⟩, ⟨some ⟨g, 0, none⟩, (goesBuf (l.set k e1) k target).length, c2⟩, ⟨qA, qN, qC⟩, 0⟩ X8.out
   dsimp only at hown hbel hres
   refine q0C _ [Cnf.v ⟨⟨r0, r1, r2, r3, ⟨mA, mem.length, mC⟩, ⟨sA, stack.length, sC⟩, goesPc (l.set k e1) k target pc⟩, ⟨some ⟨g, 0, none⟩, (goesBuf (l.set k e1) k target).length, c2⟩, ⟨qA, qN, qC⟩, 0⟩, ov, .bool true] Try.results70 (.cons (.cell (cs := Cnf.cs ⟨⟨r0, r1, r2, r3, ⟨mA, mem.length, mC⟩, ⟨sA, stack.length, sC⟩, goesPc (l.set k e1) k target pc⟩, ⟨some ⟨g, 0, none⟩, (goesBuf (l.set k e1) k target).length, c2⟩, ⟨qA, qN, qC⟩, 0⟩) (b := w.heap.size + 1 + 1) (off := 0) rfl rfl (q05 hres) Try.underlying41 rfl (by kernel_rfl)) (.cons (.tmp rfl) (.cons (.tmp rfl) .nil))) rfl ?_
   refine ⟨⟨⟨r0, r1, r2, r3, ⟨mA, mem.length, mC⟩, ⟨sA, stack.length, sC⟩, goesPc (l.set k e1) k target pc⟩, ⟨some ⟨g, 0, none⟩, (goesBuf (l.set k e1) k target).length, c2⟩, ⟨qA, qN, qC⟩, 0⟩, _, rfl, by rw [HO1.out], ?_, rfl, rfl, hbel⟩
   rw [HO1.out]
   exact hown
 ·-- an indirect jump
  have HO0 := Kept.mk (((((HO.out.symm.trans (if_neg (by omega))).trans (if_neg (by omega))).trans (if_neg (by omega))).trans (if_neg (by omega))).trans (if_neg (by omega)))
  have HO1 := Kept.mk (HO0.out.trans (if_pos rfl))
  clear hcel hfz HO HO0
  go_wp2_with fail
  have HPX := q27 K3.out (show w.heap.size < NB by omega)
  have HCX := q27 K4.out (show w.heap.size + 1 < NB by omega)
  refine q19 (fun done vals w => (if done 5 = true then OwnE w NB (.slice (some ⟨g, 0, none⟩) (goesBuf (l.set k e1) k (min a1 (il.length : Int))).length c2) (goesBuf (l.set k e1) k (min a1 (il.length : Int))) else OwnE w NB (.slice (some ⟨g, 0, none⟩) l.length c2) (l.set k e1)) ∧ (done 10 = true → done 9 = true ∧ BoxHas (NB) 41 ((Cnf.cs ⟨⟨r0, r1, r2, r3, ⟨mA, mem.length, mC⟩, ⟨sA, stack.length, sC⟩, goesPc (l.set k e1) k (min a1 (il.length : Int)) pc⟩, ⟨some ⟨g, 0, none⟩, (goesBuf (l.set k e1) k (min a1 (il.length : Int))).length, c2⟩, ⟨qA, qN, qC⟩, 0⟩)) (vals 9) w)) (NB) (G := fun _ => True) (ts := [
    .is ((Cnf.v ⟨⟨r0, r1, r2, r3, ⟨mA, mem.length, mC⟩, ⟨sA, stack.length, sC⟩, pc⟩, ⟨some ⟨g, 0, none⟩, l.length, c2⟩, ⟨qA, qN, qC⟩, 0⟩)),
    .is (Value.int .i64 ((k : Int))),
    .is (p.v),
    .is (Value.int .i64 (a1)),
    .draws (Value.int .i64 ((min a1 (il.length : Int)))),
    .turns (fun v _ => ∃ ov, v = .tuple #[Cnf.v (⟨⟨r0, r1, r2, r3, ⟨mA, mem.length, mC⟩, ⟨sA, stack.length, sC⟩, goesPc (l.set k e1) k (min a1 (il.length : Int)) pc⟩, ⟨some ⟨g, 0, none⟩, (goesBuf (l.set k e1) k (min a1 (il.length : Int))).length, c2⟩, ⟨qA, qN, qC⟩, 0⟩), ov]) (RowStep g 55),
    .gets (fun v _ => ∃ ov, v = .tuple #[Cnf.v (⟨⟨r0, r1, r2, r3, ⟨mA, mem.length, mC⟩, ⟨sA, stack.length, sC⟩, goesPc (l.set k e1) k (min a1 (il.length : Int)) pc⟩, ⟨some ⟨g, 0, none⟩, (goesBuf (l.set k e1) k (min a1 (il.length : Int))).length, c2⟩, ⟨qA, qN, qC⟩, 0⟩), ov]),
    .is (Cnf.v (⟨⟨r0, r1, r2, r3, ⟨mA, mem.length, mC⟩, ⟨sA, stack.length, sC⟩, goesPc (l.set k e1) k (min a1 (il.length : Int)) pc⟩, ⟨some ⟨g, 0, none⟩, (goesBuf (l.set k e1) k (min a1 (il.length : Int))).length, c2⟩, ⟨qA, qN, qC⟩, 0⟩)),
    .gets (fun _ _ => True),
    .makes (IsBox (NB) 41 10),
    .sets (BoxStep 41 10),
    .gets (fun _ _ => True)])
   (fin := []) (cs := [(5, 6), (5, 8), (5, 9), (5, 10), (5, 11), (10, 5), (10, 6), (10, 8), (10, 9), (10, 11)]) ?z0 ?zg (by kernel_rfl) rfl (by kernel_rfl) (by kernel_rfl)
   ⟨trivial, trivial, trivial, trivial, trivial, q07 _, q07 _, trivial, q07 _, IsBox.grows, (fun _ _ _ _ _ => trivial), q07 _, trivial⟩ (fun _ _ _ _ => trivial) ?cs (by omega) trivial
   ⟨?_, ?_, ?_, ?_, ?_, ?_, ?_, ?_, ?_, ?_, ?_, ?_, trivial⟩ ?_
  case z0 =>
   refine ⟨?_, fun h => by cases h⟩
   simp only [Bool.false_eq_true, if_false]
   exact H6.out
  case zg =>
   intro i done vals w1 w2 v hti hni hZ hb
   obtain ⟨hz, hbx21⟩ := hZ
   refine ⟨?_, ?_⟩
   ·clear hbx21
    have h5 : ¬ 5 = i := by rintro rfl; cases hti
    show if (done 5 || 5 == i) = true then _ else _
    rw [show (5 == i) = false by simpa using h5, Bool.or_false]
    split at hz
    ·rename_i h
     rw [if_pos h]
     exact OwnE.past hz hb
    ·rename_i h
     rw [if_neg h]
     exact OwnE.past hz hb
   ·intro h
    have h : (done 10 || 10 == i) = true := h
    have hst : 10 ≠ i := by rintro rfl; cases hti
    have h1 : done 10 = true := by rw [show (10 == i) = false by simpa using hst, Bool.or_false] at h; exact h
    obtain ⟨ha, hbx⟩ := hbx21 h1
    have hal : ¬ 9 = i := by rintro rfl; rw [ha] at hni; cases hni
    refine ⟨?_, ?_⟩
    ·show (done 9 || 9 == i) = true
     rw [ha, Bool.true_or]
    ·show BoxHas _ _ _ (if 9 = i then v else vals 9) _
     rw [if_neg hal]
     exact BoxHas.grows _ _ _ hbx hb
  case cs =>
   intro p hp v w1 w2 hG hR hE
   simp only [List.mem_cons, List.not_mem_nil, or_false] at hp
   rcases hp with rfl | rfl | rfl | rfl | rfl | rfl | rfl | rfl | rfl | rfl
   ·exact hR
   ·exact hR
   ·exact IsBox.keptR hR (by decide) hE
   ·exact hR
   ·exact hR
   ·exact hR
   ·exact hR
   ·exact hR
   ·exact IsBox.kept hR hE
   ·exact hR
  ·intro done vals w1 hB _ hZ hni hcl hdn _
   refine q02 rfl ?_ ⟨q04 rfl, noturn rfl⟩
   exact q09 rfl (b := w.heap.size + 1) (off := 0) (by kernel_rfl) (Cnf.cs ⟨⟨r0, r1, r2, r3, ⟨mA, mem.length, mC⟩, ⟨sA, stack.length, sC⟩, pc⟩, ⟨some ⟨g, 0, none⟩, l.length, c2⟩, ⟨qA, qN, qC⟩, 0⟩) (HCX.out w1 hB) Try.underlying41 rfl (by kernel_rfl)
  ·intro done vals w1 hB _ hZ hni hcl hdn _
   refine q02 rfl ?_ ⟨q04 rfl, noturn rfl⟩
   kernel_rfl
  ·intro done vals w1 hB _ hZ hni hcl hdn _
   refine q02 rfl ?_ ⟨q04 rfl, noturn rfl⟩
   exact q09 rfl (b := w.heap.size) (off := 0) (by kernel_rfl) p.cs (HPX.out w1 hB) Try.underlying33 rfl (by kernel_rfl)
  ·intro done vals w1 hB _ hZ hni hcl hdn _
   refine q02 rfl ?_ ⟨q04 rfl, noturn rfl⟩
   kernel_rfl
  ·intro done vals w1 hB _ hZ hni hcl hdn _
   refine q12 (f := 75) (args := #[p.v, .int .i64 (a1)]) (w1 := w1) rfl (by kernel_rfl) ?_
   refine (jump_any p il a1 w1 (HP.out.past (W6.out.trans (hB.mono (by omega))))).mono ?_
   rintro e1 w2 ⟨rfl, h2⟩
   exact ⟨_, rfl, q18 rfl h2, noturn rfl⟩
  ·intro done vals w1 hB _ hZ hni hcl hdn hd
   have hz : if done 5 = true then OwnE w1 NB (.slice (some ⟨g, 0, none⟩) (goesBuf (l.set k e1) k (min a1 (il.length : Int))).length c2) (goesBuf (l.set k e1) k (min a1 (il.length : Int))) else OwnE w1 NB (.slice (some ⟨g, 0, none⟩) l.length c2) (l.set k e1) := hZ.1
   rw [if_neg (by rw [hni]; simp)] at hz
   clear hd hZ
   have hz : OwnE w1 NB (.slice (some ⟨g, 0, none⟩) l.length c2) (l.set k e1) := hz
   have hNw : NB ≤ w1.heap.size := Nat.le_trans (show NB ≤ w6.heap.size by omega) hB.size
   refine q12 (f := 96) (args := #[Cnf.v ⟨⟨r0, r1, r2, r3, ⟨mA, mem.length, mC⟩, ⟨sA, stack.length, sC⟩, pc⟩, ⟨some ⟨g, 0, none⟩, l.length, c2⟩, ⟨qA, qN, qC⟩, 0⟩, .int .i64 (k : Int), .int .i64 ((min a1 (il.length : Int)))]) (w1 := w1) rfl (by kernel_rfl) ?_
   refine (goes_any ⟨⟨r0, r1, r2, r3, ⟨mA, mem.length, mC⟩, ⟨sA, stack.length, sC⟩, pc⟩, ⟨some ⟨g, 0, none⟩, l.length, c2⟩, ⟨qA, qN, qC⟩, 0⟩ (l.set k e1) k (by simpa using hk) ((min a1 (il.length : Int))) w1 NB hNw hz (by simp; omega)).mono ?_
   rintro e2 w2 ⟨ov, rfl, g2, g5, g6⟩
   have g6 : w1.grownBy w2 (some g) := g6
   refine ⟨_, rfl, q16 rfl ⟨ov, rfl⟩ (hB.trans g5) trivial g6.size ⟨OwnE.tagged hz (by rw [List.length_set]; omega), g6⟩, fun _ => ⟨?_, fun h => ?_⟩⟩
   ·show if (done 5 || 5 == 5) = true then _ else _
    rw [if_pos (by simp)]
    exact g2
   ·have := hcl 10 _ rfl (by kernel_rfl)
    have h : (done 10 || 10 == 5) = true := h
    rw [this] at h
    cases h
  ·intro done vals w1 hB _ hZ hni hcl hdn hd
   have d0 : ∃ ov, vals 5 = .tuple #[Cnf.v (⟨⟨r0, r1, r2, r3, ⟨mA, mem.length, mC⟩, ⟨sA, stack.length, sC⟩, goesPc (l.set k e1) k (min a1 (il.length : Int)) pc⟩, ⟨some ⟨g, 0, none⟩, (goesBuf (l.set k e1) k (min a1 (il.length : Int))).length, c2⟩, ⟨qA, qN, qC⟩, 0⟩), ov] := hd 5 (by kernel_rfl)
   clear hd
   exact q02 (v := vals 5) rfl (by kernel_rfl) ⟨q0B rfl d0, noturn rfl⟩
  ·intro done vals w1 hB _ hZ hni hcl hdn hd
   obtain ⟨ov, e0⟩ : ∃ ov, vals 6 = .tuple #[Cnf.v (⟨⟨r0, r1, r2, r3, ⟨mA, mem.length, mC⟩, ⟨sA, stack.length, sC⟩, goesPc (l.set k e1) k (min a1 (il.length : Int)) pc⟩, ⟨some ⟨g, 0, none⟩, (goesBuf (l.set k e1) k (min a1 (il.length : Int))).length, c2⟩, ⟨qA, qN, qC⟩, 0⟩), ov] := hd 6 (by kernel_rfl)
   clear hd
   refine q02 rfl ?_ ⟨q04 rfl, noturn rfl⟩
   rw [q0D e0]
   kernel_rfl
  ·intro done vals w1 hB _ hZ hni hcl hdn hd
   obtain ⟨ov, e0⟩ : ∃ ov, vals 6 = .tuple #[Cnf.v (⟨⟨r0, r1, r2, r3, ⟨mA, mem.length, mC⟩, ⟨sA, stack.length, sC⟩, goesPc (l.set k e1) k (min a1 (il.length : Int)) pc⟩, ⟨some ⟨g, 0, none⟩, (goesBuf (l.set k e1) k (min a1 (il.length : Int))).length, c2⟩, ⟨qA, qN, qC⟩, 0⟩), ov] := hd 6 (by kernel_rfl)
   clear hd
   refine q02 (v := ov) rfl ?_ ⟨q0B rfl trivial, noturn rfl⟩
   rw [q0D e0]
   kernel_rfl
  ·intro done vals w1 hB _ hZ hni hcl hdn _
   refine q1D (v := .pointer (some ⟨w1.heap.size, 0, none⟩)) (w' := w1.alloc (.cells #[Value.int .i64 (0), Value.int .i64 (0), Value.int .i64 (0), Value.int .i64 (0), Value.slice none 0 0, Value.slice none 0 0, Value.int .i64 (0), Value.slice none 0 0, Value.slice none 0 0, Value.int .i64 (0)] 41)) rfl (by kernel_rfl) ⟨q21 rfl ⟨w1.heap.size, _, rfl, (by have := hB.size; omega), rfl, heap_alloc_new w1 _⟩ (q00 _ _), noturn rfl⟩
  ·intro done vals w1 hB _ hZ hni hcl hdn hd
   have d0 : IsBox (NB) 41 10 (vals 9) w1 := hd 9 (by kernel_rfl)
   clear hd
   obtain ⟨b0, cs0, e0, hb0, hn0, hh0⟩ := d0
   obtain ⟨w2, hr2, hw2, hg2⟩ := q1B (P := Try.prog) (ty := 41) (Cnf.v (⟨⟨r0, r1, r2, r3, ⟨mA, mem.length, mC⟩, ⟨sA, stack.length, sC⟩, goesPc (l.set k e1) k (min a1 (il.length : Int)) pc⟩, ⟨some ⟨g, 0, none⟩, (goesBuf (l.set k e1) k (min a1 (il.length : Int))).length, c2⟩, ⟨qA, qN, qC⟩, 0⟩)) ((Cnf.cs ⟨⟨r0, r1, r2, r3, ⟨mA, mem.length, mC⟩, ⟨sA, stack.length, sC⟩, goesPc (l.set k e1) k (min a1 (il.length : Int)) pc⟩, ⟨some ⟨g, 0, none⟩, (goesBuf (l.set k e1) k (min a1 (il.length : Int))).length, c2⟩, ⟨qA, qN, qC⟩, 0⟩)) rfl hh0 hn0 rfl (by kernel_rfl)
   obtain ⟨hz, hbz21⟩ := hZ
   refine q14 (w' := w2) rfl ?_ ⟨q15 rfl (hB.grown hg2 (by have := hB.size; omega) (fun k hk => by injection hk with hk; omega)) trivial hg2.size ⟨b0, _, ⟨cs0, hn0, hh0⟩, rfl, hw2, hg2⟩, fun _ => ⟨?_, ?_⟩⟩
   ·rw [q0D e0]
    exact q13 rfl (by kernel_rfl) (by kernel_rfl) hr2
   ·have hbs : BoxStep 41 10 w1 w2 := ⟨b0, _, ⟨cs0, hn0, hh0⟩, rfl, hw2, hg2⟩
    show if (done 5 || 5 == 10) = true then _ else _
    rw [show (5 == 10) = false from rfl, Bool.or_false]
    have hgd := hdn 5 (by kernel_rfl)
    rw [if_pos hgd] at hz ⊢
    exact OwnE.boxstep hz hbs (by decide)
   ·exact fun _ => ⟨by show (done 9 || 9 == 10) = true; rw [hdn 9 (by kernel_rfl), Bool.true_or], b0, e0, hb0, hw2⟩
  ·intro done vals w1 hB _ hZ hni hcl hdn _
   exact q02 (v := vals 8) rfl (by kernel_rfl) ⟨q0B rfl trivial, noturn rfl⟩
  intro done vals w7 b7 _ hall hZ hr
  obtain ⟨-, bx21, ebx21, hbx21, HBX21⟩ := hZ.2 (hall 10 (by simp))
  have hrow : if done 5 = true then OwnE w7 NB (.slice (some ⟨g, 0, none⟩) (goesBuf (l.set k e1) k (min a1 (il.length : Int))).length c2) (goesBuf (l.set k e1) k (min a1 (il.length : Int))) else OwnE w7 NB (.slice (some ⟨g, 0, none⟩) l.length c2) (l.set k e1) := hZ.1
  rw [if_pos (hall 5 (by simp))] at hrow
  clear hZ hall
  clear hr
  simp only [fillT, Tell.is, Tell.draws, Tell.makes, Tell.gets, Tell.turns, Act.put, List.setIfInBounds_toArray, List.set_cons_zero, List.set_cons_succ, ebx21]
  clear ebx21
  have X7 := (b7.block (w.heap.size + 1 + 1) (by omega)).trans K6.out
  have Y7 := fun j => cell_of_row w7 (w.heap.size + 1 + 1) j _ _ _ X7
  have F7 := fun j => frozen_of_row w7 (w.heap.size + 1 + 1) j _ _ X7
  have YB := fun j => cell_of_row w7 bx21 j _ _ _ HBX21
  simp only [Cnf.cs, Cnf.zero, Sl.none] at Y7 YB
  have X8 := Kept.mk X7
  have H8 := Kept.mk hrow
  have W8 := Kept.mk (W6.out.trans (b7.mono (by omega)))
  clear Y3 Y4 Y6 Y10 F6 X7 hrow b7 HBX21
  go_wp2_with fail
  have hown := (own10 (g := w.heap.size + 1 + 1) ⟨⟨r0, r1, r2, r3, ⟨mA, mem.length, mC⟩, ⟨sA, stack.length, sC⟩, goesPc (l.set k e1) k (min a1 (il.length : Int)) pc⟩, ⟨some ⟨g, 0, none⟩, (goesBuf (l.set k e1) k (min a1 (il.length : Int))).length, c2⟩, ⟨qA, qN, qC⟩, 0⟩ H8.out (by omega)).lower (show w.heap.size ≤ NB by omega)
  have hbel := below10 (g := w.heap.size + 1 + 1) ⟨⟨r0, r1, r2, r3, ⟨mA, mem.length, mC⟩, ⟨sA, stack.length, sC⟩, goesPc (l.set k e1) k (min a1 (il.length : Int)) pc⟩, ⟨some ⟨g, 0, none⟩, (goesBuf (l.set k e1) k (min a1 (il.length : Int))).length, c2⟩, ⟨qA, qN, qC⟩, 0⟩ W8.out (by omega)
  have hres := q11 Cnf.zero ⟨⟨r0, r1, r2, r3, ⟨mA, mem.length, mC⟩, ⟨sA, stack.length, sC⟩, goesPc (l.set k e1) k (min a1 (il.length : Int)) pc⟩, ⟨some ⟨g, 0, none⟩, (goesBuf (l.set k e1) k (min a1 (il.length : Int))).length, c2⟩, ⟨qA, qN, qC⟩, 0⟩ X8.out
  dsimp only at hown hbel hres
  refine q0C _ [Cnf.v ⟨⟨r0, r1, r2, r3, ⟨mA, mem.length, mC⟩, ⟨sA, stack.length, sC⟩, goesPc (l.set k e1) k (min a1 (il.length : Int)) pc⟩, ⟨some ⟨g, 0, none⟩, (goesBuf (l.set k e1) k (min a1 (il.length : Int))).length, c2⟩, ⟨qA, qN, qC⟩, 0⟩, vals 11, .bool true] Try.results70 (.cons (.cell (cs := Cnf.cs ⟨⟨r0, r1, r2, r3, ⟨mA, mem.length, mC⟩, ⟨sA, stack.length, sC⟩, goesPc (l.set k e1) k (min a1 (il.length : Int)) pc⟩, ⟨some ⟨g, 0, none⟩, (goesBuf (l.set k e1) k (min a1 (il.length : Int))).length, c2⟩, ⟨qA, qN, qC⟩, 0⟩) (b := w.heap.size + 1 + 1) (off := 0) rfl rfl (q05 hres) Try.underlying41 rfl (by kernel_rfl)) (.cons (.tmp rfl) (.cons (.tmp rfl) .nil))) rfl ?_
  refine ⟨⟨⟨r0, r1, r2, r3, ⟨mA, mem.length, mC⟩, ⟨sA, stack.length, sC⟩, goesPc (l.set k e1) k (min a1 (il.length : Int)) pc⟩, ⟨some ⟨g, 0, none⟩, (goesBuf (l.set k e1) k (min a1 (il.length : Int))).length, c2⟩, ⟨qA, qN, qC⟩, 0⟩, _, rfl, by rw [HO1.out], ?_, rfl, rfl, hbel⟩
  rw [HO1.out]
  exact hown
end
end Go.Proofs.Ytchldbkjapnlcaa
