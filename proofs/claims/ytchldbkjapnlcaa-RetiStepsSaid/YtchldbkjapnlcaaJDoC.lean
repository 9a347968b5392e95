/- The document's own answer, layer 15: an entry that is done: kinds 2. -/
import Derived.Test.YtchldbkjapnlcaaJd
set_option linter.unusedVariables false
set_option linter.unusedSimpArgs false
namespace Go.Proofs.Ytchldbkjapnlcaa
open Go.RowKit
section
set_option maxRecDepth 100000 in
set_option maxHeartbeats 60000000 in
theorem do_atC (p : Prg) (il : List Inst) (c : Cnf) (m : Conf) (k : Nat) (hk : k < m.buf.length) (w : World) (hp : PIs w p il) (hW : p.W = 1 ∨ p.W = 2) (hop : ∀ y ∈ il, (y.kind = 1 ∨ y.kind = 5) → 1 ≤ y.op ∧ y.op ≤ 10) (hc : CfIs w c m)
  (hln : m.buf.length ≤ 1000) (hml : m.st.mem.length ≤ 1000) (hsl : m.st.stack.length ≤ 1000) (hcan : canOf p.W il m k = true) (hsub : (instAt il m.buf[k].pc).kind = 2 ∨ (instAt il m.buf[k].pc).kind = 2) :
  Calls Try.prog 70 #[p.v, c.v, .int .i64 (k : Int)] w (DoPost c (doOut p.W il m k { m.buf[k] with done := true } (instAt il m.buf[k].pc)).1 (doOut p.W il m k { m.buf[k] with done := true } (instAt il m.buf[k].pc)).2 w) := by
 have HC := Kept.mk hc
 have HP := Kept.mk hp
 have HCan := Kept.mk (fun w1 h1 h2 => can_any p il c m k w1 h1 hW h2 (by omega) (by omega))
 rw [hcan] at HCan
 have hci : openOf il m k = true ∧ canIn p.W il m k (instAt il m.buf[k].pc) = true := by
  unfold canOf at hcan
  split at hcan
  ·rw [Int.toNat_natCast, List.getElem?_eq_getElem hk] at hcan
   simp only at hcan
   split at hcan
   ·cases hcan
   ·exact ⟨by assumption, hcan⟩
  ·cases hcan
 have hfin : m.fin = 0 := by
  have ho := hci.1
  unfold openOf at ho
  simp only [Bool.and_eq_true, decide_eq_true_eq] at ho
  exact ho.1.1
 have hpcb := @inst_bound il m.buf[k].pc
 have hopx : (instAt il m.buf[k].pc).kind = 1 ∨ (instAt il m.buf[k].pc).kind = 5 → 1 ≤ (instAt il m.buf[k].pc).op ∧ (instAt il m.buf[k].pc).op ≤ 10 := by
  intro h
  have hb := hpcb (by omega)
  refine hop _ ?_ h
  unfold instAt
  rw [if_neg (by omega), List.getElem?_eq_getElem (show m.buf[k].pc.toNat < il.length by omega)]
  exact List.getElem_mem _
 have HT := Kept.mk (fun c1 m1 x w1 h1 h2 h3 => told_any p il c1 m1 k x w1 h1 hW h2 h3)
 have HM := Kept.mk (fun n w1 => q23 p.W n hW w1)
 have HMw : Kept (∀ (n : Int) (w : World), Calls Try.prog 73 #[.int .i64 p.W, .int .i64 (wrap64 n)] w fun en w' => en = .returned (.int .i64 (maskW p.W n)) ∧ w = w') := ⟨fun n w => by have := q23 p.W (wrap64 n) hW w; rwa [q32 p.W n hW] at this⟩
 have HD := Kept.mk (fun op a b h w1 => do1 p.W op a b hW h w1)
 have hpn := Kept.mk hp.n
 have hpm := hp.m
 clear hcan hci hop hp hW
 obtain ⟨⟨r0, r1, r2, r3, ⟨mA, mN, mC⟩, ⟨sA, sN, sC⟩, pc⟩, ⟨bA, bN, bC⟩, ⟨qA, qN, qC⟩, fin⟩ := c
 obtain ⟨⟨q0, q1, q2, q3, mem, stack, qc⟩, l, rsb, qf⟩ := m
 obtain ⟨⟨h0, h1, h2, h3, ⟨hmn, hmc, hmr⟩, ⟨hsn, hsc, hsr⟩, hpc⟩, ⟨hbn, hbc, hbr⟩, ⟨hqn, hqc, hqr⟩, hf⟩ := hc
 simp only at h0 h1 h2 h3 hpc hf hbn hbc hbr hln hmn hmc hmr hml hsn hsc hsr hsl hfin hk
 subst h0 h1 h2 h3 hpc hf hbn hmn hsn
 subst hfin
 simp only at HCan hsub hpcb hopx HC ⊢
 have HMR := Kept.mk hmr
 have HSR := Kept.mk hsr
 have HBR := Kept.mk hbr
 have HQR := Kept.mk (show RdIs w ⟨qA, qN, qC⟩ rsb from ⟨hqn, hqc, hqr⟩)
 clear hmr hsr hbr hqn hqc hqr
 generalize hx : instAt il l[k].pc = x at hsub hpcb hopx ⊢
 have HAT : Kept (∀ w1, PIs w1 p il → Calls Try.prog 62 #[p.v, .int .i64 l[k].pc] w1 fun en w' => en = .returned x.v ∧ Below w1.heap.size w1 w') := ⟨fun w1 h => by rw [← hx]; exact at7 p il l[k].pc w1 h⟩
 clear hx
 generalize hOUT : doOut p.W il ⟨⟨r0, r1, r2, r3, mem, stack, pc⟩, l, rsb, 0⟩ k { l[k] with done := true } x = OUT
 have HOUT := Kept.mk hOUT
 clear hOUT
 go_enter Try.func70, Try.ntmps70
 go_wp2_with fail
 have HB := Kept.mk (((q00 w (.cells p.cs.toArray 33)).alloc (by simp) (.cells (Cnf.cs ⟨⟨r0, r1, r2, r3, ⟨mA, mem.length, mC⟩, ⟨sA, stack.length, sC⟩, pc⟩, ⟨bA, l.length, bC⟩, ⟨qA, qN, qC⟩, 0⟩).toArray 41)).alloc (by simp; omega) (.cells Cnf.zero.cs.toArray 41))
 refine (HCan.out _ (HP.out.past HB.out) (HC.out.past HB.out)).mono ?_
 rintro en w1 ⟨rfl, b1⟩
 have W1 := Kept.mk (HB.out.trans (b1.mono HB.out.size))
 have X3 := (b1.block w.heap.size (by simp <;> omega)).trans ((heap_alloc_old _ _ (by simp; omega)).trans ((heap_alloc_old _ _ (by simp)).trans (heap_alloc_new w (.cells p.cs.toArray 33))))
 have X4 := (b1.block (w.heap.size + 1) (by simp <;> omega)).trans ((heap_alloc_old _ _ (by simp)).trans (heap_alloc2_new w (.cells p.cs.toArray 33) (.cells (Cnf.cs ⟨⟨r0, r1, r2, r3, ⟨mA, mem.length, mC⟩, ⟨sA, stack.length, sC⟩, pc⟩, ⟨bA, l.length, bC⟩, ⟨qA, qN, qC⟩, 0⟩).toArray 41)))
 have X6 := (b1.block (w.heap.size + 1 + 1) (by simp <;> omega)).trans (q06 (o := (.cells Cnf.zero.cs.toArray 41)) (by simp))
 have S1 : w.heap.size + 3 ≤ w1.heap.size := by have := b1.size; simp at this; omega
 have Y4 := fun j => cell_of_row w1 (w.heap.size + 1) j _ _ _ X4
 simp only [Cnf.cs] at Y4
 have K3 := Kept.mk X3
 have K4 := Kept.mk X4
 have K6 := Kept.mk X6
 have y7 : ∀ o, (w1.alloc o).cell? ⟨w.heap.size + 1, 7, none⟩ = some (.slice bA l.length bC) := fun o => ((q00 w1 o).cell (p := ⟨w.heap.size + 1, 7, none⟩) (by show w.heap.size + 1 < _; omega)).trans (by rw [Y4]; rfl)
 clear X3 X4 X6 b1
 go_wp2_with (at_builtin; go_must (refine append_ents _ rfl (.tmp 33) (.tmp 35) rfl w1.heap.size rfl (OwnE.made (Nat.le_refl _)) (m := l) rfl ((HBR.out.past W1.out).past (q00 _ _)) (by simp; omega) (by simp) ?_))
 intro v2 w2 h2 hg2 b2
 obtain ⟨g, hv2, hgB, hgl, hcel, hfz⟩ : ∃ g, (∃ c2, v2 = .slice (some ⟨g, 0, none⟩) l.length c2 ∧ l.length ≤ c2) ∧ w1.heap.size ≤ g ∧ g < w2.heap.size ∧ CellsAt w2 g (k * 8) l[k].cs ∧ ∀ j, w2.frozen? ⟨g, j, none⟩ = false := by
  obtain ⟨A2, c2, rfl, hc2, -⟩ := h2.shape
  obtain ⟨g, rfl, a1, a2, a3, a4⟩ := h2.el hk
  exact ⟨g, ⟨c2, rfl, hc2⟩, a1, a2, a3, a4⟩
 obtain ⟨c2, rfl, hc2⟩ := hv2
 have b2' := (q00 w1 (.cells #[] 55)).trans (b2.mono (Nat.le_refl _))
 have W2 := Kept.mk (W1.out.trans (b2'.mono W1.out.size))
 have X3 := q01 K3.out b2'
 have X4 := q01 K4.out b2'
 have X6 := q01 K6.out b2'
 have Y4' := fun j => cell_of_row w2 (w.heap.size + 1) j _ _ _ X4
 simp only [Cnf.cs] at Y4'
 have f7 := frozen_of_row w2 (w.heap.size + 1) 7 _ _ X4
 have c5 := hcel 5 (.bool l[k].done) rfl
 have f5 := hfz (k * 8 + 5)
 have H2 := Kept.mk h2
 have S2 : w1.heap.size ≤ w2.heap.size := b2'.size
 have hne4 : g ≠ w.heap.size + 1 := by omega
 clear y7 Y4 K3 K4 K6 hg2 b2 b2' hcel hfz h2
 have K3 := Kept.mk X3
 have K4 := Kept.mk X4
 have K6 := Kept.mk X6
 clear X3 X4 X6
 go_wp2_with fail
 have hgw : w.heap.size + 3 ≤ g := by omega
 have W3 := Kept.mk ((W2.out.setCell (p := ⟨w.heap.size + 1, 7, none⟩) (by show w.heap.size ≤ w.heap.size + 1; omega) (.slice (some ⟨g, 0, none⟩) l.length c2)).setCell (p := ⟨g, k * 8 + 5, none⟩) (by show w.heap.size ≤ g; omega) (.bool true))
 have X3 := q03 (p := ⟨g, k * 8 + 5, none⟩) (u := .bool true) (q03 (p := ⟨w.heap.size + 1, 7, none⟩) (u := .slice (some ⟨g, 0, none⟩) l.length c2) K3.out (by simp)) (by show g ≠ _; omega)
 have X4 := q03 (p := ⟨g, k * 8 + 5, none⟩) (u := .bool true) (heap_setCell_same w2 (w.heap.size + 1) 7 _ _ (.slice (some ⟨g, 0, none⟩) l.length c2) K4.out) (by show g ≠ _; omega)
 rw [show (Cnf.cs ⟨⟨r0, r1, r2, r3, ⟨mA, mem.length, mC⟩, ⟨sA, stack.length, sC⟩, pc⟩, ⟨bA, l.length, bC⟩, ⟨qA, qN, qC⟩, 0⟩).toArray.setIfInBounds 7 (.slice (some ⟨g, 0, none⟩) l.length c2) = (Cnf.cs ⟨⟨r0, r1, r2, r3, ⟨mA, mem.length, mC⟩, ⟨sA, stack.length, sC⟩, pc⟩, ⟨some ⟨g, 0, none⟩, l.length, c2⟩, ⟨qA, qN, qC⟩, 0⟩).toArray from rfl] at X4
 have X6 := q03 (p := ⟨g, k * 8 + 5, none⟩) (u := .bool true) (q03 (p := ⟨w.heap.size + 1, 7, none⟩) (u := .slice (some ⟨g, 0, none⟩) l.length c2) K6.out (by simp)) (by show g ≠ _; omega)
 have h3 := (OwnE.far H2.out (p := ⟨w.heap.size + 1, 7, none⟩) (by show w.heap.size + 1 < _; omega) (.slice (some ⟨g, 0, none⟩) l.length c2)).setAt rfl hk (j := 5) (u := .bool true) (e' := { l[k] with done := true }) (by omega) rfl
 have hs3 : g < ((w2.setCell ⟨w.heap.size + 1, 7, none⟩ (.slice (some ⟨g, 0, none⟩) l.length c2)).setCell ⟨g, k * 8 + 5, none⟩ (.bool true)).heap.size := by simpa [World.setCell] using hgl
 generalize hE : ({ l[k] with done := true } : Ent) = e1 at h3
 have hepc : e1.pc = l[k].pc := by rw [← hE]
 generalize (w2.setCell ⟨w.heap.size + 1, 7, none⟩ (.slice (some ⟨g, 0, none⟩) l.length c2)).setCell ⟨g, k * 8 + 5, none⟩ (.bool true) = w3 at *
 have HE1 := Kept.mk hE
 have HEP := Kept.mk hepc
 have H3 := Kept.mk h3
 have HPX := q24 X3
 obtain ⟨g', hge, -, -, hcel, -⟩ := h3.el (k := k) (by simpa using hk)
 injection hge with hge
 injection hge with hge
 subst hge
 rw [List.getElem_set_self] at hcel
 have HEX := hcel.kept hs3
 rw [← hepc] at HAT
 have K3 := Kept.mk X3
 have K4 := Kept.mk X4
 have K6 := Kept.mk X6
 clear hE hepc h3 hcel X3 X4 X6 Y4' f7 c5 f5 H2 W2 hne4 hgl
 refine q35 [] [(7, 6, BoxHas (w3.heap.size) 53 x.cs)] (w3.heap.size) (G := fun _ => True) (ts := [
   .is (p.v),
   .is (Value.pointer (some ⟨g, k * 8, none⟩)),
   .is (Value.pointer (some ⟨g, k * 8, none⟩)),
   .is (Value.pointer (some ⟨g, k * 8, none⟩)),
   .is (Value.int .i64 (e1.pc)),
   .draws (x.v),
   .makes (IsBox (w3.heap.size) 53 9),
   .sets (BoxStep 53 9)])
  (fin := []) (cs := [(7, 6)]) (by simp) (by kernel_rfl) ?lg (by kernel_rfl) rfl (by kernel_rfl) (by kernel_rfl)
  ⟨trivial, trivial, trivial, trivial, trivial, trivial, IsBox.grows, (fun _ _ _ _ _ => trivial), trivial⟩ (fun _ _ _ _ => trivial) ?cs (by simp) trivial
  ⟨?_, ?_, ?_, ?_, ?_, ?_, ?_, ?_, trivial⟩ ?_
 case lg =>
  intro q hq
  simp only [List.mem_cons, List.not_mem_nil, or_false] at hq
  rcases hq with rfl
  ·exact BoxHas.grows
 case cs =>
  intro p hp v w1 w2 hG hR hE
  simp only [List.mem_cons, List.not_mem_nil, or_false] at hp
  rcases hp with rfl
  ·exact IsBox.kept hR hE
 ·intro vals w1 hB _ _
  refine q02 rfl ?_ ⟨q04 rfl, q10 (by simp) rfl⟩
  exact q09 rfl (b := w.heap.size) (off := 0) (by kernel_rfl) p.cs (HPX.out w1 hB) Try.underlying33 rfl (by kernel_rfl)
 ·intro vals w1 hB _ _
  refine q02 rfl ?_ ⟨q04 rfl, q10 (by simp) rfl⟩
  kernel_rfl
 ·intro vals w1 hB _ _
  refine q02 rfl ?_ ⟨q04 rfl, q10 (by simp) rfl⟩
  kernel_rfl
 ·intro vals w1 hB _ _
  refine q02 rfl ?_ ⟨q04 rfl, q10 (by simp) rfl⟩
  kernel_rfl
 ·intro vals w1 hB _ _
  refine q02 rfl ?_ ⟨q04 rfl, q10 (by simp) rfl⟩
  exact q0A rfl (by kernel_rfl) ((HEX.out w1 hB) 0 _ rfl) Try.underlying3 rfl
 ·intro vals w1 hB _ _
  refine q12 (f := 62) (args := #[p.v, .int .i64 (e1.pc)]) (w1 := w1) rfl (by kernel_rfl) ?_
  refine (HAT.out w1 ((HP.out.past W3.out).past hB)).mono ?_
  rintro e1 w2 ⟨rfl, h2⟩
  exact ⟨_, rfl, q18 rfl h2, q10 (by simp) rfl⟩
 ·intro vals w1 hB _ _
  refine q1D (v := .pointer (some ⟨w1.heap.size, 0, none⟩)) (w' := w1.alloc (.cells #[Value.int .i64 (0), Value.int .i64 (0), Value.int .i64 (0), Value.bool false, Value.int .i64 (0), Value.bool false, Value.int .i64 (0), Value.string ⟨#[]⟩, Value.int .i64 (0)] 53)) rfl (by kernel_rfl) ⟨q21 rfl ⟨w1.heap.size, _, rfl, (by have := hB.size; omega), rfl, heap_alloc_new w1 _⟩ (q00 _ _), q10 (by simp) rfl⟩
 ·intro vals w1 hB _ hd
  have d0 : IsBox (w3.heap.size) 53 9 (vals 6) w1 := hd 6 (by kernel_rfl)
  clear hd
  obtain ⟨b0, cs0, e0, hb0, hn0, hh0⟩ := d0
  obtain ⟨w2, hr2, hw2, hg2⟩ := q1B (P := Try.prog) (ty := 53) (x.v) x.cs rfl hh0 hn0 rfl (by kernel_rfl)
  refine q14 (w' := w2) rfl ?_ ⟨q15 rfl (hB.grown hg2 (by have := hB.size; omega) (fun k hk => by injection hk with hk; omega)) trivial hg2.size ⟨b0, _, ⟨cs0, hn0, hh0⟩, rfl, hw2, hg2⟩, tellx_turns (by simp) ?_⟩
  ·rw [q0D e0]
   exact q13 rfl (by kernel_rfl) (by kernel_rfl) hr2
  ·intro q hq
   simp only [List.mem_cons, List.not_mem_nil, or_false] at hq
   rcases hq with rfl
   ·exact ⟨fun _ => ⟨b0, e0, hb0, hw2⟩, fun h => absurd rfl h⟩
 intro vals w5 b5 _ _ hlk hr
 obtain ⟨bx10, ebx10, hbx10, HBX10⟩ : BoxHas (w3.heap.size) 53 x.cs (vals 6) w5 := hlk _ (List.mem_cons_self ..)
 clear hlk
 clear hr
 simp only [fillT, Tell.is, Tell.draws, Tell.makes, Act.put, List.setIfInBounds_toArray, List.set_cons_zero, List.set_cons_succ, ebx10]
 clear ebx10
 have W5 := Kept.mk (W3.out.trans (b5.mono W3.out.size))
 have X3 := q01 K3.out b5
 have X4 := q01 K4.out b5
 have X6 := q01 K6.out b5
 have H5 := Kept.mk (H3.out.past b5)
 have S5 : g < w5.heap.size := Nat.lt_of_lt_of_le hs3 b5.size
 have S15 : w3.heap.size ≤ bx10 := hbx10
 have Y3 := fun j => cell_of_row w5 w.heap.size j _ _ _ X3
 have Y4 := fun j => cell_of_row w5 (w.heap.size + 1) j _ _ _ X4
 have Y10 := fun j => cell_of_row w5 bx10 j _ _ _ HBX10
 simp only [Prg.cs, Cnf.cs, Inst.cs] at Y3 Y4 Y10
 clear K3 K4 K6
 have K3 := Kept.mk X3
 have K4 := Kept.mk X4
 have K6 := Kept.mk X6
 have K10 := Kept.mk HBX10
 clear X3 X4 X6 HBX10 b5 HPX HEX H3 hbx10
 have CF5 : Kept (CfIs w5 ⟨⟨r0, r1, r2, r3, ⟨mA, mem.length, mC⟩, ⟨sA, stack.length, sC⟩, pc⟩, ⟨some ⟨g, 0, none⟩, l.length, c2⟩, ⟨qA, qN, qC⟩, 0⟩ ⟨⟨r0, r1, r2, r3, mem, stack, pc⟩, l.set k e1, rsb, 0⟩) := ⟨⟨rfl, rfl, rfl, rfl, ⟨rfl, hmc, HMR.out.past W5.out⟩, ⟨rfl, hsc, HSR.out.past W5.out⟩, rfl⟩, by have := OwnE.is (s := ⟨some ⟨g, 0, none⟩, l.length, c2⟩) H5.out; exact this, HQR.out.past W5.out, rfl⟩
 go_wp2_with fail
 refine (HT.out ⟨⟨r0, r1, r2, r3, ⟨mA, mem.length, mC⟩, ⟨sA, stack.length, sC⟩, pc⟩, ⟨some ⟨g, 0, none⟩, l.length, c2⟩, ⟨qA, qN, qC⟩, 0⟩ ⟨⟨r0, r1, r2, r3, mem, stack, pc⟩, l.set k e1, rsb, 0⟩ x _ (HP.out.past W5.out) CF5.out (by simp; omega)).mono ?_
 rintro en w6 ⟨rfl, b6⟩
 have W6 := Kept.mk (W5.out.trans (b6.mono W5.out.size))
 have X3 := q01 K3.out b6
 have X4 := q01 K4.out b6
 have X6 := q01 K6.out b6
 have X10 := q01 K10.out b6
 have H6 := Kept.mk (H5.out.past b6)
 have S6 : g < w6.heap.size := Nat.lt_of_lt_of_le S5 b6.size
 have CF6 := Kept.mk (CF5.out.past b6)
 clear Y3 Y4 Y10 K3 K4 K6 K10 b6 H5 CF5
 have Y3 := fun j => cell_of_row w6 w.heap.size j _ _ _ X3
 have Y4 := fun j => cell_of_row w6 (w.heap.size + 1) j _ _ _ X4
 have Y6 := fun j => cell_of_row w6 (w.heap.size + 1 + 1) j _ _ _ X6
 have F6 := fun j => frozen_of_row w6 (w.heap.size + 1 + 1) j _ _ X6
 have Y10 := fun j => cell_of_row w6 bx10 j _ _ _ X10
 simp only [Prg.cs, Cnf.cs, Inst.cs, Cnf.zero, Sl.none] at Y3 Y4 Y6 Y10
 have K3 := Kept.mk X3
 have K4 := Kept.mk X4
 have K6 := Kept.mk X6
 have K10 := Kept.mk X10
 clear X3 X4 X6 X10
 obtain ⟨g', hge, -, -, hcel, hfz⟩ := H6.out.el (k := k) (by simpa using hk)
 injection hge with hge
 injection hge with hge
 subst hge
 rw [List.getElem_set_self] at hcel
 have hO := HOUT.out
 clear HOUT
 rw [HE1.out] at hO
 unfold doOut at hO
 simp only at hO
 generalize aOf p.W il ⟨⟨r0, r1, r2, r3, mem, stack, pc⟩, l.set k e1, rsb, 0⟩ k x = a at hO ⊢
 generalize bOf p.W il ⟨⟨r0, r1, r2, r3, mem, stack, pc⟩, l.set k e1, rsb, 0⟩ k x = b at hO ⊢
 generalize dOf il ⟨⟨r0, r1, r2, r3, mem, stack, pc⟩, l.set k e1, rsb, 0⟩ k x = d at hO ⊢
 obtain ⟨a1, a2⟩ := a
 obtain ⟨b1, b2⟩ := b
 obtain ⟨d1, d2⟩ := d
 simp only at hO ⊢
 have HO := Kept.mk hO
 clear hO
 have hng3 : g ≠ w.heap.size := by omega
 have hng4 : g ≠ w.heap.size + 1 := by omega
 have hng6 : g ≠ w.heap.size + 1 + 1 := by omega
 obtain ⟨NB, hNB⟩ : ∃ NB, w1.heap.size = NB := ⟨_, rfl⟩
 rw [hNB] at S1 S2 hgB H6
 obtain ⟨kind, op, xd, ar, an, br, bn, name, target⟩ := x
 simp only at HO Y10 hsub hpcb hopx ⊢
 obtain rfl := hsub.elim id id
 ·-- a load
  have HO0 := Kept.mk (((HO.out.symm.trans (if_neg (by omega))).trans (if_neg (by omega))).trans (if_neg (by omega)))
  have HO1 := Kept.mk (HO0.out.trans (if_pos rfl))
  have c2' := hcel 2 (.int .i64 e1.addr) rfl
  have f2 := hfz (k * 8 + 2)
  have c6 := hcel 6 (.bool e1.known) rfl
  have f6 := hfz (k * 8 + 6)
  clear hcel hfz HO HO0
  go_wp2_with fail
  refine (HMw.out _ _).mono ?_
  rintro en w' ⟨rfl, rfl⟩
  generalize maskW p.W (a1 + b1) = ad at HO1 ⊢
  go_wp2_with fail
  have X7 := Kept.mk (q03 (p := ⟨g, k * 8 + 2, none⟩) (u := .int .i64 ad) K6.out (by show g ≠ w.heap.size + 1 + 1; omega))
  have hz := H6.out.setAt (by simp) (k := k) (by simpa using hk) (j := 2) (u := .int .i64 ad) (e' := { e1 with addr := ad }) (by omega) (by rw [List.getElem_set_self]; rfl)
  rw [List.set_set] at hz
  have W7 := Kept.mk (W6.out.setCell (p := ⟨g, k * 8 + 2, none⟩) (by show w.heap.size ≤ g; omega) (.int .i64 ad))
  have H7 := Kept.mk hz
  clear hz
  have X8 := Kept.mk (q03 (p := ⟨g, k * 8 + 6, none⟩) (u := .bool true) X7.out (by show g ≠ w.heap.size + 1 + 1; omega))
  have hz := H7.out.setAt (by simp) (k := k) (by simpa using hk) (j := 6) (u := .bool true) (e' := { e1 with addr := ad, known := true }) (by omega) (by rw [List.getElem_set_self]; rfl)
  rw [List.set_set] at hz
  have W8 := Kept.mk (W7.out.setCell (p := ⟨g, k * 8 + 6, none⟩) (by show w.heap.size ≤ g; omega) (.bool true))
  have H8 := Kept.mk hz
  clear hz
  have X3 := q03 (p := ⟨g, k * 8 + 6, none⟩) (u := .bool true) (q03 (p := ⟨g, k * 8 + 2, none⟩) (u := .int .i64 ad) K3.out (by show g ≠ w.heap.size; omega)) (by show g ≠ w.heap.size; omega)
  have X4 := q03 (p := ⟨g, k * 8 + 6, none⟩) (u := .bool true) (q03 (p := ⟨g, k * 8 + 2, none⟩) (u := .int .i64 ad) K4.out (by show g ≠ w.heap.size + 1; omega)) (by show g ≠ w.heap.size + 1; omega)
  have SL : g < ((w6.setCell ⟨g, k * 8 + 2, none⟩ (.int .i64 ad)).setCell ⟨g, k * 8 + 6, none⟩ (.bool true)).heap.size := by simpa [World.setCell] using S6
  have KL3 := Kept.mk X3
  have KL4 := Kept.mk X4
  clear X3 X4 X7 H7 W7 Y3 Y4 Y6 Y10 F6 K3 K4 K6 K10 H6 CF6 c2' f2 c6 f6
  generalize (w6.setCell ⟨g, k * 8 + 2, none⟩ (.int .i64 ad)).setCell ⟨g, k * 8 + 6, none⟩ (.bool true) = wl at *
  have W6L := W8
  clear W6 S6
  obtain ⟨g', hge, -, -, hcel, -⟩ := H8.out.el (k := k) (by simpa using hk)
  injection hge with hge
  injection hge with hge
  subst hge
  rw [List.getElem_set_self] at hcel
  have HEX := hcel.kept SL
  have HCX := q24 KL4.out
  clear hcel
  by_cases hml2 : (mem.length : Int) ≤ ad
  ·have HO2 := Kept.mk (HO1.out.trans (if_pos hml2))
   have HG := Kept.mk (show decide (ad ≥ (mem.length : Int)) = true from decide_eq_true hml2)
   refine q1E (wl.heap.size) (G := fun _ => True) (ts := [
     .is (Value.pointer (some ⟨g, k * 8, none⟩)),
     .is (Value.pointer (some ⟨g, k * 8, none⟩)),
     .is (Value.pointer (some ⟨g, k * 8 + 2, none⟩)),
     .is (Value.int .i64 (ad)),
     .is (Value.pointer (some ⟨w.heap.size + 1, 0, none⟩)),
     .is (Value.pointer (some ⟨w.heap.size + 1, 4, none⟩)),
     .is (Value.slice mA mem.length mC),
     .is (Value.int .i64 ((mem.length : Int))),
     .is (Value.bool true)])
    (fin := []) (cs := []) (by kernel_rfl) rfl (by kernel_rfl) (by kernel_rfl)
    ⟨trivial, trivial, trivial, trivial, trivial, trivial, trivial, trivial, trivial, trivial⟩ (fun _ _ _ _ => trivial) (by simp) (by simp) trivial
    ⟨?_, ?_, ?_, ?_, ?_, ?_, ?_, ?_, ?_, trivial⟩ ?_
   ·intro vals w1 hB _ _
    refine q02 rfl ?_ (q04 rfl)
    kernel_rfl
   ·intro vals w1 hB _ _
    refine q02 rfl ?_ (q04 rfl)
    kernel_rfl
   ·intro vals w1 hB _ _
    refine q02 rfl ?_ (q04 rfl)
    kernel_rfl
   ·intro vals w1 hB _ _
    refine q02 rfl ?_ (q04 rfl)
    exact q0A rfl (by kernel_rfl) ((HEX.out w1 hB) 2 _ rfl) Try.underlying3 rfl
   ·intro vals w1 hB _ _
    refine q02 rfl ?_ (q04 rfl)
    kernel_rfl
   ·intro vals w1 hB _ _
    refine q02 rfl ?_ (q04 rfl)
    kernel_rfl
   ·intro vals w1 hB _ _
    refine q02 rfl ?_ (q04 rfl)
    exact q0A rfl (by kernel_rfl) ((HCX.out w1 hB) 4 _ rfl) Try.underlying22 rfl
   ·intro vals w1 hB _ _
    refine q02 rfl ?_ (q04 rfl)
    kernel_rfl
   ·intro vals w1 hB _ _
    refine q02 rfl ?_ (q04 rfl)
    exact Eq.trans (b := .ok (.value (.bool (decide ((ad) ≥ ((mem.length : Int)))))) w1) (by kernel_rfl) (by rw [HG.out])
   intro vals wm b9 _ hr
   clear hr
   simp only [fillT, Tell.is, Act.put, List.setIfInBounds_toArray, List.set_cons_zero, List.set_cons_succ]
   have X6 := q01 X8.out b9
   have X4 := q01 KL4.out b9
   have HM6 := Kept.mk (H8.out.past b9)
   have WM := Kept.mk (W8.out.trans (b9.mono W8.out.size))
   clear b9 HEX HCX KL3 KL4 X8 H8 W8 W6L
   have Y4 := fun j => cell_of_row wm (w.heap.size + 1) j _ _ _ X4
   have Y6 := fun j => cell_of_row wm (w.heap.size + 1 + 1) j _ _ _ X6
   have F6 := fun j => frozen_of_row wm (w.heap.size + 1 + 1) j _ _ X6
   simp only [Cnf.cs, Cnf.zero, Sl.none] at Y4 Y6
   have KM6 := Kept.mk X6
   clear X6 X4
   obtain ⟨g', hge, -, -, hcel, hfz⟩ := HM6.out.el (k := k) (by simpa using hk)
   injection hge with hge
   injection hge with hge
   subst hge
   rw [List.getElem_set_self] at hcel
   have c7 := hcel 7 (.bool e1.fault) rfl
   have f7 := hfz (k * 8 + 7)
   clear hcel hfz
   go_wp2_with fail
   have X7 := Kept.mk (q03 (p := ⟨g, k * 8 + 7, none⟩) (u := .bool true) KM6.out (by show g ≠ w.heap.size + 1 + 1; omega))
   have hz := HM6.out.setAt (by simp) (k := k) (by simpa using hk) (j := 7) (u := .bool true) (e' := { e1 with addr := ad, known := true, fault := true }) (by omega) (by rw [List.getElem_set_self]; rfl)
   rw [List.set_set] at hz
   have W7 := Kept.mk (WM.out.setCell (p := ⟨g, k * 8 + 7, none⟩) (by show w.heap.size ≤ g; omega) (.bool true))
   have H7 := Kept.mk hz
   clear hz
   have hown := (own10 (g := w.heap.size + 1 + 1) ⟨⟨r0, r1, r2, r3, ⟨mA, mem.length, mC⟩, ⟨sA, stack.length, sC⟩, pc⟩, ⟨some ⟨g, 0, none⟩, l.length, c2⟩, ⟨qA, qN, qC⟩, 0⟩ H7.out (by omega)).lower (show w.heap.size ≤ NB by omega)
   have hbel := below10 (g := w.heap.size + 1 + 1) ⟨⟨r0, r1, r2, r3, ⟨mA, mem.length, mC⟩, ⟨sA, stack.length, sC⟩, pc⟩, ⟨some ⟨g, 0, none⟩, l.length, c2⟩, ⟨qA, qN, qC⟩, 0⟩ W7.out (by omega)
   have hres := q11 Cnf.zero ⟨⟨r0, r1, r2, r3, ⟨mA, mem.length, mC⟩, ⟨sA, stack.length, sC⟩, pc⟩, ⟨some ⟨g, 0, none⟩, l.length, c2⟩, ⟨qA, qN, qC⟩, 0⟩ X7.out
   dsimp only at hown hbel hres
   refine q0C _ [Cnf.v ⟨⟨r0, r1, r2, r3, ⟨mA, mem.length, mC⟩, ⟨sA, stack.length, sC⟩, pc⟩, ⟨some ⟨g, 0, none⟩, l.length, c2⟩, ⟨qA, qN, qC⟩, 0⟩, .slice none 0 0, .bool true] Try.results70 (.cons (.cell (cs := Cnf.cs ⟨⟨r0, r1, r2, r3, ⟨mA, mem.length, mC⟩, ⟨sA, stack.length, sC⟩, pc⟩, ⟨some ⟨g, 0, none⟩, l.length, c2⟩, ⟨qA, qN, qC⟩, 0⟩) (b := w.heap.size + 1 + 1) (off := 0) rfl rfl (q05 hres) Try.underlying41 rfl (by kernel_rfl)) (.cons (.tmp rfl) (.cons (.tmp rfl) .nil))) rfl ?_
   refine ⟨⟨⟨r0, r1, r2, r3, ⟨mA, mem.length, mC⟩, ⟨sA, stack.length, sC⟩, pc⟩, ⟨some ⟨g, 0, none⟩, l.length, c2⟩, ⟨qA, qN, qC⟩, 0⟩, _, rfl, by rw [HO2.out], ?_, rfl, rfl, hbel⟩
   rw [HO2.out]
   exact hown
  ·have HO2 := Kept.mk (HO1.out.trans (if_neg hml2))
   have HG := Kept.mk (show decide (ad ≥ (mem.length : Int)) = false from decide_eq_false (by omega))
   have HLd := Kept.mk (fun w1 h1 h2 h3 => load_any p il mA mC mem (some ⟨g, 0, none⟩) c2 (l.set k { e1 with addr := ad, known := true }) k ad w1 h1 h2 (by omega) h3 (by simp; omega))
   rw [List.length_set] at HLd
   generalize loadOf il (l.set k { e1 with addr := ad, known := true }) mem k ad = L at HLd HO2
   obtain ⟨l1, l2, l3⟩ := L
   simp only at HLd HO2
   refine q1E (wl.heap.size) (G := fun _ => True) (ts := [
     .is (Value.pointer (some ⟨g, k * 8, none⟩)),
     .is (Value.pointer (some ⟨g, k * 8, none⟩)),
     .is (Value.pointer (some ⟨g, k * 8 + 2, none⟩)),
     .is (Value.int .i64 (ad)),
     .is (Value.pointer (some ⟨w.heap.size + 1, 0, none⟩)),
     .is (Value.pointer (some ⟨w.heap.size + 1, 4, none⟩)),
     .is (Value.slice mA mem.length mC),
     .is (Value.int .i64 ((mem.length : Int))),
     .is (Value.bool false)])
    (fin := []) (cs := []) (by kernel_rfl) rfl (by kernel_rfl) (by kernel_rfl)
    ⟨trivial, trivial, trivial, trivial, trivial, trivial, trivial, trivial, trivial, trivial⟩ (fun _ _ _ _ => trivial) (by simp) (by simp) trivial
    ⟨?_, ?_, ?_, ?_, ?_, ?_, ?_, ?_, ?_, trivial⟩ ?_
   ·intro vals w1 hB _ _
    refine q02 rfl ?_ (q04 rfl)
    kernel_rfl
   ·intro vals w1 hB _ _
    refine q02 rfl ?_ (q04 rfl)
    kernel_rfl
   ·intro vals w1 hB _ _
    refine q02 rfl ?_ (q04 rfl)
    kernel_rfl
   ·intro vals w1 hB _ _
    refine q02 rfl ?_ (q04 rfl)
    exact q0A rfl (by kernel_rfl) ((HEX.out w1 hB) 2 _ rfl) Try.underlying3 rfl
   ·intro vals w1 hB _ _
    refine q02 rfl ?_ (q04 rfl)
    kernel_rfl
   ·intro vals w1 hB _ _
    refine q02 rfl ?_ (q04 rfl)
    kernel_rfl
   ·intro vals w1 hB _ _
    refine q02 rfl ?_ (q04 rfl)
    exact q0A rfl (by kernel_rfl) ((HCX.out w1 hB) 4 _ rfl) Try.underlying22 rfl
   ·intro vals w1 hB _ _
    refine q02 rfl ?_ (q04 rfl)
    kernel_rfl
   ·intro vals w1 hB _ _
    refine q02 rfl ?_ (q04 rfl)
    exact Eq.trans (b := .ok (.value (.bool (decide ((ad) ≥ ((mem.length : Int)))))) w1) (by kernel_rfl) (by rw [HG.out])
   intro vals wm b9 _ hr
   clear hr
   simp only [fillT, Tell.is, Act.put, List.setIfInBounds_toArray, List.set_cons_zero, List.set_cons_succ]
   have X6 := q01 X8.out b9
   have X4 := q01 KL4.out b9
   have X3 := q01 KL3.out b9
   have HM6 := Kept.mk (H8.out.past b9)
   have WM := Kept.mk (W8.out.trans (b9.mono W8.out.size))
   have SM : g < wm.heap.size := Nat.lt_of_lt_of_le SL b9.size
   clear b9 HEX HCX KL3 KL4 X8 H8 W8 W6L
   have HPX := q27 X3 (show w.heap.size < NB by omega)
   have HCX := q27 X4 (show w.heap.size + 1 < NB by omega)
   have KM4 := Kept.mk X4
   have KM6 := Kept.mk X6
   clear X3 X4 X6
   go_wp2_with fail
   refine q19 (fun done vals w => OwnE w NB (.slice (some ⟨g, 0, none⟩) l.length c2) (l.set k { e1 with addr := ad, known := true, val := if done 20 = true then l1 else e1.val, frm := if done 23 = true then l2 else e1.frm })) (NB) (G := fun _ => True) (ts := [
     .is (Value.pointer (some ⟨g, k * 8, none⟩)),
     .is (Value.pointer (some ⟨g, k * 8, none⟩)),
     .is (p.v),
     .is (Value.pointer (some ⟨w.heap.size + 1, 0, none⟩)),
     .is (Value.pointer (some ⟨w.heap.size + 1, 4, none⟩)),
     .is (Value.slice mA mem.length mC),
     .is (Value.pointer (some ⟨w.heap.size + 1, 7, none⟩)),
     .is (Value.slice (some ⟨g, 0, none⟩) l.length c2),
     .is (Value.int .i64 ((k : Int))),
     .is (Value.pointer (some ⟨g, k * 8, none⟩)),
     .is (Value.pointer (some ⟨g, k * 8, none⟩)),
     .is (Value.pointer (some ⟨g, k * 8 + 2, none⟩)),
     .is (Value.int .i64 (ad)),
     .draws (Value.tuple #[.int .i64 (l1), .int .i64 (l2), .bool l3]),
     .is (Value.tuple #[.int .i64 (l1), .int .i64 (l2), .bool l3]),
     .is (Value.int .i64 (l1)),
     .is (Value.int .i64 (l2)),
     .is (Value.bool l3),
     .is (Value.pointer (some ⟨g, k * 8, none⟩)),
     .is (Value.pointer (some ⟨g, k * 8 + 1, none⟩)),
     .sets (RowStep g 55),
     .is (Value.pointer (some ⟨g, k * 8, none⟩)),
     .is (Value.pointer (some ⟨g, k * 8 + 3, none⟩)),
     .sets (RowStep g 55)])
    (fin := []) (cs := [(20, 23), (23, 20)]) ?z0 ?zg (by kernel_rfl) rfl (by kernel_rfl) (by kernel_rfl)
    ⟨trivial, trivial, trivial, trivial, trivial, trivial, trivial, trivial, trivial, trivial, trivial, trivial, trivial, trivial, trivial, trivial, trivial, trivial, trivial, trivial, (fun _ _ _ _ _ => trivial), trivial, trivial, (fun _ _ _ _ _ => trivial), trivial⟩ (fun _ _ _ _ => trivial) ?cs (by omega) trivial
    ⟨?_, ?_, ?_, ?_, ?_, ?_, ?_, ?_, ?_, ?_, ?_, ?_, ?_, ?_, ?_, ?_, ?_, ?_, ?_, ?_, ?_, ?_, ?_, ?_, trivial⟩ ?_
   case z0 =>
    show _
    simp only [Bool.false_eq_true, if_false]
    exact HM6.out
   case zg =>
    intro i done vals w1 w2 v hti hni hZ hb
    have hz := hZ
    ·skip
     have h20 : ¬ 20 = i := by rintro rfl; cases hti
     have h23 : ¬ 23 = i := by rintro rfl; cases hti
     show OwnE _ NB (.slice (some ⟨g, 0, none⟩) l.length c2) (l.set k { e1 with addr := ad, known := true, val := if (done 20 || 20 == i) = true then l1 else e1.val, frm := if (done 23 || 23 == i) = true then l2 else e1.frm })
     rw [show (20 == i) = false by simpa using h20, show (23 == i) = false by simpa using h23, Bool.or_false, Bool.or_false]
     exact OwnE.past hz hb
   case cs =>
    intro p hp v w1 w2 hG hR hE
    simp only [List.mem_cons, List.not_mem_nil, or_false] at hp
    rcases hp with rfl | rfl
    ·exact hR
    ·exact hR
   ·intro done vals w1 hB _ hZ hni hcl hdn _
    refine q02 rfl ?_ ⟨q04 rfl, noturn rfl⟩
    kernel_rfl
   ·intro done vals w1 hB _ hZ hni hcl hdn _
    refine q02 rfl ?_ ⟨q04 rfl, noturn rfl⟩
    kernel_rfl
   ·intro done vals w1 hB _ hZ hni hcl hdn _
    refine q02 rfl ?_ ⟨q04 rfl, noturn rfl⟩
    exact q09 rfl (b := w.heap.size) (off := 0) (by kernel_rfl) p.cs (HPX.out w1 hB) Try.underlying33 rfl (by kernel_rfl)
   ·intro done vals w1 hB _ hZ hni hcl hdn _
    refine q02 rfl ?_ ⟨q04 rfl, noturn rfl⟩
    kernel_rfl
   ·intro done vals w1 hB _ hZ hni hcl hdn _
    refine q02 rfl ?_ ⟨q04 rfl, noturn rfl⟩
    kernel_rfl
   ·intro done vals w1 hB _ hZ hni hcl hdn _
    refine q02 rfl ?_ ⟨q04 rfl, noturn rfl⟩
    exact q0A rfl (by kernel_rfl) ((HCX.out w1 hB) 4 _ rfl) Try.underlying22 rfl
   ·intro done vals w1 hB _ hZ hni hcl hdn _
    refine q02 rfl ?_ ⟨q04 rfl, noturn rfl⟩
    kernel_rfl
   ·intro done vals w1 hB _ hZ hni hcl hdn _
    refine q02 rfl ?_ ⟨q04 rfl, noturn rfl⟩
    exact q0A rfl (by kernel_rfl) ((HCX.out w1 hB) 7 _ rfl) Try.underlying39 rfl
   ·intro done vals w1 hB _ hZ hni hcl hdn _
    refine q02 rfl ?_ ⟨q04 rfl, noturn rfl⟩
    kernel_rfl
   ·intro done vals w1 hB _ hZ hni hcl hdn _
    refine q02 rfl ?_ ⟨q04 rfl, noturn rfl⟩
    kernel_rfl
   ·intro done vals w1 hB _ hZ hni hcl hdn _
    refine q02 rfl ?_ ⟨q04 rfl, noturn rfl⟩
    kernel_rfl
   ·intro done vals w1 hB _ hZ hni hcl hdn _
    refine q02 rfl ?_ ⟨q04 rfl, noturn rfl⟩
    kernel_rfl
   ·intro done vals w1 hB _ hZ hni hcl hdn _
    have hrow : OwnE w1 NB (.slice (some ⟨g, 0, none⟩) l.length c2) (l.set k { e1 with addr := ad, known := true, val := if done 20 = true then l1 else e1.val, frm := if done 23 = true then l2 else e1.frm }) := hZ
    obtain ⟨g', hge, -, -, hce, hfz⟩ := hrow.el (k := k) (by simpa using hk)
    injection hge with hge
    injection hge with hge
    subst hge
    rw [List.getElem_set_self] at hce
    refine q02 rfl ?_ ⟨q04 rfl, noturn rfl⟩
    exact q0A rfl (by kernel_rfl) (hce 2 _ rfl) Try.underlying3 rfl
   ·intro done vals w1 hB _ hZ hni hcl hdn hd
    have hrow : OwnE w1 NB (.slice (some ⟨g, 0, none⟩) l.length c2) (l.set k { e1 with addr := ad, known := true, val := if done 20 = true then l1 else e1.val, frm := if done 23 = true then l2 else e1.frm }) := hZ
    have h20 := hcl 20 _ rfl (by kernel_rfl)
    have h23 := hcl 23 _ rfl (by kernel_rfl)
    rw [if_neg (by rw [h20]; simp), if_neg (by rw [h23]; simp)] at hrow
    have hrow : OwnE w1 NB (.slice (some ⟨g, 0, none⟩) l.length c2) (l.set k { e1 with addr := ad, known := true }) := hrow
    clear hd
    refine q12 (f := 94) (args := #[p.v, .slice mA mem.length mC, .slice (some ⟨g, 0, none⟩) l.length c2, .int .i64 ((k : Int)), .int .i64 (ad)]) (w1 := w1) rfl (by kernel_rfl) ?_
    refine (HLd.out w1 (HP.out.past (WM.out.trans (hB.mono (by omega)))) (HMR.out.past (WM.out.trans (hB.mono (by omega)))) (OwnE.is (s := ⟨some ⟨g, 0, none⟩, l.length, c2⟩) hrow).r).mono ?_
    rintro e1 w2 ⟨rfl, h2⟩
    exact ⟨_, rfl, q18 rfl h2, noturn rfl⟩
   ·intro done vals w1 hB _ hZ hni hcl hdn _
    refine q02 rfl ?_ ⟨q04 rfl, noturn rfl⟩
    kernel_rfl
   ·intro done vals w1 hB _ hZ hni hcl hdn _
    refine q02 rfl ?_ ⟨q04 rfl, noturn rfl⟩
    kernel_rfl
   ·intro done vals w1 hB _ hZ hni hcl hdn _
    refine q02 rfl ?_ ⟨q04 rfl, noturn rfl⟩
    kernel_rfl
   ·intro done vals w1 hB _ hZ hni hcl hdn _
    refine q02 rfl ?_ ⟨q04 rfl, noturn rfl⟩
    kernel_rfl
   ·intro done vals w1 hB _ hZ hni hcl hdn _
    refine q02 rfl ?_ ⟨q04 rfl, noturn rfl⟩
    kernel_rfl
   ·intro done vals w1 hB _ hZ hni hcl hdn _
    refine q02 rfl ?_ ⟨q04 rfl, noturn rfl⟩
    kernel_rfl
   ·intro done vals w1 hB _ hZ hni hcl hdn _
    have hrow : OwnE w1 NB (.slice (some ⟨g, 0, none⟩) l.length c2) (l.set k { e1 with addr := ad, known := true, val := if done 20 = true then l1 else e1.val, frm := if done 23 = true then l2 else e1.frm }) := hZ
    obtain ⟨g', hge, -, -, hce, hfz⟩ := hrow.el (k := k) (by simpa using hk)
    injection hge with hge
    injection hge with hge
    subst hge
    rw [List.getElem_set_self] at hce
    have hst := hrow.setAt (by simp) (k := k) (by simpa using hk) (j := 1) (u := .int .i64 l1) (e' := { e1 with addr := ad, known := true, val := l1, frm := if done 23 = true then l2 else e1.frm }) (by omega) (by rw [List.getElem_set_self]; rfl)
    rw [List.set_set] at hst
    refine q14 (w' := w1.setCell ⟨g, k * 8 + 1, none⟩ (.int .i64 l1)) rfl ?_ ⟨q15 rfl (hB.setCell (by exact hgB) _) trivial (by simp [World.setCell]) ⟨OwnE.tagged hrow (by rw [List.length_set]; omega), q08 w1 ⟨g, k * 8 + 1, none⟩ _⟩, fun _ => ?_⟩
    ·exact q13 rfl (by kernel_rfl) (by kernel_rfl) (q34 (hce 1 _ rfl) (hfz (k * 8 + 1)) (by kernel_rfl))
    ·show OwnE _ NB (.slice (some ⟨g, 0, none⟩) l.length c2) (l.set k { e1 with addr := ad, known := true, val := if (done 20 || 20 == 20) = true then l1 else e1.val, frm := if (done 23 || 23 == 20) = true then l2 else e1.frm })
     rw [if_pos (show (done 20 || 20 == 20) = true by simp), show (23 == 20) = false from rfl, Bool.or_false]
     exact hst
   ·intro done vals w1 hB _ hZ hni hcl hdn _
    refine q02 rfl ?_ ⟨q04 rfl, noturn rfl⟩
    kernel_rfl
   ·intro done vals w1 hB _ hZ hni hcl hdn _
    refine q02 rfl ?_ ⟨q04 rfl, noturn rfl⟩
    kernel_rfl
   ·intro done vals w1 hB _ hZ hni hcl hdn _
    have hrow : OwnE w1 NB (.slice (some ⟨g, 0, none⟩) l.length c2) (l.set k { e1 with addr := ad, known := true, val := if done 20 = true then l1 else e1.val, frm := if done 23 = true then l2 else e1.frm }) := hZ
    obtain ⟨g', hge, -, -, hce, hfz⟩ := hrow.el (k := k) (by simpa using hk)
    injection hge with hge
    injection hge with hge
    subst hge
    rw [List.getElem_set_self] at hce
    have hst := hrow.setAt (by simp) (k := k) (by simpa using hk) (j := 3) (u := .int .i64 l2) (e' := { e1 with addr := ad, known := true, val := if done 20 = true then l1 else e1.val, frm := l2 }) (by omega) (by rw [List.getElem_set_self]; rfl)
    rw [List.set_set] at hst
    refine q14 (w' := w1.setCell ⟨g, k * 8 + 3, none⟩ (.int .i64 l2)) rfl ?_ ⟨q15 rfl (hB.setCell (by exact hgB) _) trivial (by simp [World.setCell]) ⟨OwnE.tagged hrow (by rw [List.length_set]; omega), q08 w1 ⟨g, k * 8 + 3, none⟩ _⟩, fun _ => ?_⟩
    ·exact q13 rfl (by kernel_rfl) (by kernel_rfl) (q34 (hce 3 _ rfl) (hfz (k * 8 + 3)) (by kernel_rfl))
    ·show OwnE _ NB (.slice (some ⟨g, 0, none⟩) l.length c2) (l.set k { e1 with addr := ad, known := true, val := if (done 20 || 20 == 23) = true then l1 else e1.val, frm := if (done 23 || 23 == 23) = true then l2 else e1.frm })
     rw [if_pos (show (done 23 || 23 == 23) = true by simp), show (20 == 23) = false from rfl, Bool.or_false]
     exact hst
   intro done vals wn b10 _ hall hZ hr
   have hrow : OwnE wn NB (.slice (some ⟨g, 0, none⟩) l.length c2) (l.set k { e1 with addr := ad, known := true, val := if done 20 = true then l1 else e1.val, frm := if done 23 = true then l2 else e1.frm }) := hZ
   rw [if_pos (hall 20 (by simp)), if_pos (hall 23 (by simp))] at hrow
   clear hZ hall
   clear hr
   simp only [fillT, Tell.is, Tell.draws, Act.put, List.setIfInBounds_toArray, List.set_cons_zero, List.set_cons_succ]
   have X4 := (b10.block (w.heap.size + 1) (by omega)).trans KM4.out
   have X6 := (b10.block (w.heap.size + 1 + 1) (by omega)).trans KM6.out
   have HN6 := Kept.mk hrow
   have WN := Kept.mk (WM.out.trans (b10.mono (by omega)))
   have SN : wm.heap.size ≤ wn.heap.size := b10.size
   clear b10 hrow HPX HCX HM6 KM4 KM6
   have HCX := q27 X4 (show w.heap.size + 1 < w.heap.size + 1 + 1 by omega)
   have KN6 := Kept.mk X6
   clear X4 X6
   go_wp2_with fail
   obtain ⟨S6n, hS6n⟩ : ∃ n, w.heap.size + 1 + 1 = n := ⟨_, rfl⟩
   rw [hS6n] at KN6 HCX ⊢
   refine q19 (fun done vals w => (OwnE w NB (.slice (some ⟨g, 0, none⟩) l.length c2) (l.set k { e1 with addr := ad, known := true, val := l1, frm := l2 }) ∧ w.heap[S6n]? = some (.cells (if done 7 = true then (Cnf.cs ⟨⟨r0, r1, r2, r3, ⟨mA, mem.length, mC⟩, ⟨sA, stack.length, sC⟩, pc⟩, ⟨some ⟨g, 0, none⟩, l.length, c2⟩, ⟨qA, qN, qC⟩, 0⟩).toArray else Cnf.zero.cs.toArray) 41 (0, 0)))) (S6n) (G := fun _ => True) (ts := [
     .is ((Cnf.v ⟨⟨r0, r1, r2, r3, ⟨mA, mem.length, mC⟩, ⟨sA, stack.length, sC⟩, pc⟩, ⟨some ⟨g, 0, none⟩, l.length, c2⟩, ⟨qA, qN, qC⟩, 0⟩)),
     .is (Value.pointer (some ⟨g, k * 8, none⟩)),
     .is (Value.pointer (some ⟨g, k * 8, none⟩)),
     .is (Value.pointer (some ⟨g, k * 8 + 2, none⟩)),
     .is (Value.int .i64 (ad)),
     .is (Value.agg #[.int .i64 (1), .int .i64 (ad)]),
     .makes (fun v _ => True),
     .sets (BoxStep 41 10),
     .gets (fun _ _ => True),
     .is (Value.bool true)])
    (fin := []) (cs := [(7, 6), (7, 8)]) ?z0 ?zg (by kernel_rfl) rfl (by kernel_rfl) (by kernel_rfl)
    ⟨trivial, trivial, trivial, trivial, trivial, trivial, q07 _, (fun _ _ _ _ _ => trivial), q07 _, trivial, trivial⟩ (fun _ _ _ _ => trivial) ?cs (by omega) trivial
    ⟨?_, ?_, ?_, ?_, ?_, ?_, ?_, ?_, ?_, ?_, trivial⟩ ?_
   case z0 =>
    show _
    simp only [Bool.false_eq_true, if_false]
    exact ⟨HN6.out, KN6.out⟩
   case zg =>
    intro i done vals w1 w2 v hti hni hZ hb
    have hz := hZ
    ·skip
     have h7 : ¬ 7 = i := by rintro rfl; cases hti
     show (OwnE w2 NB (.slice (some ⟨g, 0, none⟩) l.length c2) (l.set k { e1 with addr := ad, known := true, val := l1, frm := l2 }) ∧ w2.heap[S6n]? = some (.cells (if (done 7 || 7 == i) = true then (Cnf.cs ⟨⟨r0, r1, r2, r3, ⟨mA, mem.length, mC⟩, ⟨sA, stack.length, sC⟩, pc⟩, ⟨some ⟨g, 0, none⟩, l.length, c2⟩, ⟨qA, qN, qC⟩, 0⟩).toArray else Cnf.zero.cs.toArray) 41 (0, 0)))
     rw [show (7 == i) = false by simpa using h7, Bool.or_false]
     exact ⟨OwnE.past hz.1 hb, q01 hz.2 hb⟩
   case cs =>
    intro p hp v w1 w2 hG hR hE
    simp only [List.mem_cons, List.not_mem_nil, or_false] at hp
    rcases hp with rfl | rfl
    ·exact hR
    ·exact hR
   ·intro done vals w1 hB _ hZ hni hcl hdn _
    refine q02 rfl ?_ ⟨q04 rfl, noturn rfl⟩
    exact q09 rfl (b := w.heap.size + 1) (off := 0) (by kernel_rfl) (Cnf.cs ⟨⟨r0, r1, r2, r3, ⟨mA, mem.length, mC⟩, ⟨sA, stack.length, sC⟩, pc⟩, ⟨some ⟨g, 0, none⟩, l.length, c2⟩, ⟨qA, qN, qC⟩, 0⟩) (HCX.out w1 hB) Try.underlying41 rfl (by kernel_rfl)
   ·intro done vals w1 hB _ hZ hni hcl hdn _
    refine q02 rfl ?_ ⟨q04 rfl, noturn rfl⟩
    kernel_rfl
   ·intro done vals w1 hB _ hZ hni hcl hdn _
    refine q02 rfl ?_ ⟨q04 rfl, noturn rfl⟩
    kernel_rfl
   ·intro done vals w1 hB _ hZ hni hcl hdn _
    refine q02 rfl ?_ ⟨q04 rfl, noturn rfl⟩
    kernel_rfl
   ·intro done vals w1 hB _ hZ hni hcl hdn _
    have hrow := (show (OwnE w1 NB (.slice (some ⟨g, 0, none⟩) l.length c2) (l.set k { e1 with addr := ad, known := true, val := l1, frm := l2 }) ∧ w1.heap[S6n]? = some (.cells (if done 7 = true then (Cnf.cs ⟨⟨r0, r1, r2, r3, ⟨mA, mem.length, mC⟩, ⟨sA, stack.length, sC⟩, pc⟩, ⟨some ⟨g, 0, none⟩, l.length, c2⟩, ⟨qA, qN, qC⟩, 0⟩).toArray else Cnf.zero.cs.toArray) 41 (0, 0))) from hZ).1
    obtain ⟨g', hge, -, -, hce, hfz⟩ := hrow.el (k := k) (by simpa using hk)
    injection hge with hge
    injection hge with hge
    subst hge
    rw [List.getElem_set_self] at hce
    refine q02 rfl ?_ ⟨q04 rfl, noturn rfl⟩
    exact q0A rfl (by kernel_rfl) (hce 2 _ rfl) Try.underlying3 rfl
   ·intro done vals w1 hB _ hZ hni hcl hdn _
    refine q02 rfl ?_ ⟨q04 rfl, noturn rfl⟩
    kernel_rfl
   ·intro done vals w1 hB _ hZ hni hcl hdn _
    exact q1D (v := .slice (some ⟨w1.heap.size, 0, none⟩) 1 1) (w' := w1.alloc (.cells #[.int .i64 1, .int .i64 ad] 124)) rfl (by kernel_rfl) ⟨q21 rfl trivial (q00 _ _), noturn rfl⟩
   ·intro done vals w1 hB _ hZ hni hcl hdn _
    obtain ⟨hrow, hx⟩ := (show (OwnE w1 NB (.slice (some ⟨g, 0, none⟩) l.length c2) (l.set k { e1 with addr := ad, known := true, val := l1, frm := l2 }) ∧ w1.heap[S6n]? = some (.cells (if done 7 = true then (Cnf.cs ⟨⟨r0, r1, r2, r3, ⟨mA, mem.length, mC⟩, ⟨sA, stack.length, sC⟩, pc⟩, ⟨some ⟨g, 0, none⟩, l.length, c2⟩, ⟨qA, qN, qC⟩, 0⟩).toArray else Cnf.zero.cs.toArray) 41 (0, 0))) from hZ)
    rw [if_neg (by rw [hni]; simp)] at hx
    obtain ⟨w2, hr2, hw2, hg2⟩ := q1B (P := Try.prog) (ty := 41) (Cnf.v ⟨⟨r0, r1, r2, r3, ⟨mA, mem.length, mC⟩, ⟨sA, stack.length, sC⟩, pc⟩, ⟨some ⟨g, 0, none⟩, l.length, c2⟩, ⟨qA, qN, qC⟩, 0⟩) (Cnf.cs ⟨⟨r0, r1, r2, r3, ⟨mA, mem.length, mC⟩, ⟨sA, stack.length, sC⟩, pc⟩, ⟨some ⟨g, 0, none⟩, l.length, c2⟩, ⟨qA, qN, qC⟩, 0⟩) rfl hx rfl rfl (by kernel_rfl)
    have hbs : BoxStep 41 10 w1 w2 := ⟨S6n, _, ⟨_, rfl, hx⟩, rfl, hw2, hg2⟩
    refine q14 (w' := w2) rfl ?_ ⟨q15 rfl (hB.grown hg2 (by have := hB.size; omega) (fun k hk => by injection hk with hk; omega)) trivial hg2.size hbs, fun _ => ?_⟩
    ·exact q13 rfl (by kernel_rfl) (by kernel_rfl) hr2
    ·show (OwnE w2 NB (.slice (some ⟨g, 0, none⟩) l.length c2) (l.set k { e1 with addr := ad, known := true, val := l1, frm := l2 }) ∧ w2.heap[S6n]? = some (.cells (if (done 7 || 7 == 7) = true then (Cnf.cs ⟨⟨r0, r1, r2, r3, ⟨mA, mem.length, mC⟩, ⟨sA, stack.length, sC⟩, pc⟩, ⟨some ⟨g, 0, none⟩, l.length, c2⟩, ⟨qA, qN, qC⟩, 0⟩).toArray else Cnf.zero.cs.toArray) 41 (0, 0)))
     rw [if_pos (show (done 7 || 7 == 7) = true by simp)]
     exact ⟨OwnE.boxstep hrow hbs (by decide), hw2⟩
   ·intro done vals w1 hB _ hZ hni hcl hdn _
    exact q02 (v := vals 6) rfl (by kernel_rfl) ⟨q0B rfl trivial, noturn rfl⟩
   ·intro done vals w1 hB _ hZ hni hcl hdn _
    refine q02 rfl ?_ ⟨q04 rfl, noturn rfl⟩
    kernel_rfl
   intro done vals wo b11 _ hall hZ hr
   obtain ⟨hrow, hx⟩ := (show (OwnE wo NB (.slice (some ⟨g, 0, none⟩) l.length c2) (l.set k { e1 with addr := ad, known := true, val := l1, frm := l2 }) ∧ wo.heap[S6n]? = some (.cells (if done 7 = true then (Cnf.cs ⟨⟨r0, r1, r2, r3, ⟨mA, mem.length, mC⟩, ⟨sA, stack.length, sC⟩, pc⟩, ⟨some ⟨g, 0, none⟩, l.length, c2⟩, ⟨qA, qN, qC⟩, 0⟩).toArray else Cnf.zero.cs.toArray) 41 (0, 0))) from hZ)
   rw [if_pos (hall 7 (by simp))] at hx
   clear hZ hall
   clear hr
   simp only [fillT, Tell.is, Tell.makes, Tell.gets, Act.put, List.setIfInBounds_toArray, List.set_cons_zero, List.set_cons_succ]
   have WO := Kept.mk (WN.out.trans (b11.mono (by omega)))
   have HRW := Kept.mk hrow
   have HX := Kept.mk hx
   clear hrow hx b11
   go_wp2_with fail
   refine q0C _ [Cnf.v ⟨⟨r0, r1, r2, r3, ⟨mA, mem.length, mC⟩, ⟨sA, stack.length, sC⟩, pc⟩, ⟨some ⟨g, 0, none⟩, l.length, c2⟩, ⟨qA, qN, qC⟩, 0⟩, vals 8, .bool true] Try.results70 (.cons (.cell (cs := Cnf.cs ⟨⟨r0, r1, r2, r3, ⟨mA, mem.length, mC⟩, ⟨sA, stack.length, sC⟩, pc⟩, ⟨some ⟨g, 0, none⟩, l.length, c2⟩, ⟨qA, qN, qC⟩, 0⟩) (b := S6n) (off := 0) rfl rfl (q05 HX.out) Try.underlying41 rfl (by kernel_rfl)) (.cons (.tmp rfl) (.cons (.tmp rfl) .nil))) rfl ?_
   refine ⟨⟨⟨r0, r1, r2, r3, ⟨mA, mem.length, mC⟩, ⟨sA, stack.length, sC⟩, pc⟩, ⟨some ⟨g, 0, none⟩, l.length, c2⟩, ⟨qA, qN, qC⟩, 0⟩, _, rfl, by rw [HO2.out], ?_, rfl, rfl, WO.out⟩
   rw [HO2.out]
   exact HRW.out.lower (by omega)
end
end Go.Proofs.Ytchldbkjapnlcaa
