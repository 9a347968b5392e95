/- The document's own answer, layer 8: a step of the program, one by one: what it computes. -/
import Derived.Test.YtchldbkjapnlcaaJsx
set_option linter.unusedVariables false
set_option linter.unusedSimpArgs false
namespace Go.Proofs.Ytchldbkjapnlcaa
open Go.RowKit
section
set_option maxRecDepth 100000 in
set_option maxHeartbeats 60000000 in
theorem seq_any (p : Prg) (il : List Inst) (c : Stt) (s : State) (w : World) (hp : PIs w p il) (hW : p.W = 1 ∨ p.W = 2) (hok : ∀ y ∈ il, InsOk y il.length) (hc : StAll w c s) (hml : s.mem.length ≤ 1000) (hsl : s.stack.length ≤ 1000) (hpc : -2 ≤ s.pc ∧ s.pc ≤ 1000000) :
  Calls Try.prog 39 #[p.v, c.v] w (SeqPost (seqOf p.W il s) w) := by
 have HC := Kept.mk hc
 have HP := Kept.mk hp
 obtain ⟨r0, r1, r2, r3, ⟨mA, mN, mC⟩, ⟨sA, sN, sC⟩, pc⟩ := c
 obtain ⟨q0, q1, q2, q3, mem, stack, qc⟩ := s
 have h0 : r0 = q0 := hc.st.r0
 have h1 : r1 = q1 := hc.st.r1
 have h2 : r2 = q2 := hc.st.r2
 have h3 : r3 = q3 := hc.st.r3
 have h4 : pc = qc := hc.st.pc
 have hmn : mN = mem.length := hc.st.mem.n
 have hsn : sN = stack.length := hc.st.stack.n
 subst h0 h1 h2 h3 h4 hmn hsn
 simp only at hml hsl hpc
 have hbd : (instAt il pc).kind ≠ 12 → InsOk (instAt il pc) il.length := fun h => hok _ (q2D h).2.2
 have hvn : (0 ≤ (instAt il pc).an ∧ (instAt il pc).an ≤ 3) ∧ (0 ≤ (instAt il pc).bn ∧ (instAt il pc).bn ≤ 3) ∧ (0 ≤ (instAt il pc).d ∧ (instAt il pc).d ≤ 3) ∧ (((instAt il pc).kind = 1 ∨ (instAt il pc).kind = 5) → 1 ≤ (instAt il pc).op ∧ (instAt il pc).op ≤ 10) := by
  by_cases h : (instAt il pc).kind = 12
  ·have hf : instAt il pc = Inst.fault := by
    unfold instAt at h ⊢
    split
    ·rfl
    ·rename_i hn
     rw [if_neg hn] at h
     cases hg : il[pc.toNat]? with
     | none => rfl
     | some y =>
      rw [hg] at h
      have := (hok y (List.mem_of_getElem? hg)).k
      have h : y.kind = 12 := h
      omega
   rw [hf]
   exact ⟨by decide, by decide, by decide, by decide⟩
  ·exact ⟨(hbd h).an, (hbd h).bn, (hbd h).d, (hbd h).op⟩
 have hva := fun w1 => val7_any p ⟨r0, r1, r2, r3, mem, stack, pc⟩ (instAt il pc).ar (instAt il pc).an w1 hW hvn.1
 have hvb := fun w1 => val7_any p ⟨r0, r1, r2, r3, mem, stack, pc⟩ (instAt il pc).br (instAt il pc).bn w1 hW hvn.2.1
 have hdo := fun a b w1 (h : (instAt il pc).kind = 1 ∨ (instAt il pc).kind = 5) => do1 p.W (instAt il pc).op a b hW (hvn.2.2.2 h) w1
 have HD := Kept.mk hvn.2.2.1
 have HMw : Kept (∀ (n : Int) (w : World), Calls Try.prog 73 #[.int .i64 p.W, .int .i64 (wrap64 n)] w fun en w' => en = .returned (.int .i64 (maskW p.W n)) ∧ w = w') := ⟨fun n w => by have := q23 p.W (wrap64 n) hW w; rwa [q32 p.W n hW] at this⟩
 have HMB := Kept.mk (fun n => maskW_bd p.W n hW)
 have HJ := Kept.mk (fun n w1 (h : PIs w1 p il) => jump_any p il n w1 h)
 have hat := fun w1 (h : PIs w1 p il) => at7 p il pc w1 h
 generalize hF : seqOf p.W il ⟨r0, r1, r2, r3, mem, stack, pc⟩ = FO
 unfold seqOf at hF
 simp only at hF
 generalize instAt il pc = x at *
 obtain ⟨kind, op, xd, ar, an, br, bn, name, target⟩ := x
 simp only at hva hvb hdo hF HD
 generalize valS p.W ⟨r0, r1, r2, r3, mem, stack, pc⟩ ar an = a at *
 generalize valS p.W ⟨r0, r1, r2, r3, mem, stack, pc⟩ br bn = b at *
 have HFO := Kept.mk hF
 have HVA := Kept.mk hva
 have HVB := Kept.mk hvb
 have HDO := Kept.mk hdo
 have HAT := Kept.mk hat
 clear hF hva hvb hdo hat hvn hbd hok hp hc hW
 have wpc : IntKind.i64.wrap (pc + 1) = pc + 1 := IntWalk.i64_in _ (by omega)
 go_enter Try.func39, Try.ntmps39
 go_wp2_with fail
 have HB := Kept.mk (((q00 w (.cells p.cs.toArray 33)).alloc (by simp) (.cells (Stt.cs ⟨r0, r1, r2, r3, ⟨mA, mem.length, mC⟩, ⟨sA, stack.length, sC⟩, pc⟩).toArray 36)).alloc (by simp; omega) (.cells (Stt.cs ⟨0, 0, 0, 0, Sl.none, Sl.none, 0⟩).toArray 36))
 refine (HAT.out _ (HP.out.past HB.out)).mono ?_
 rintro en w1 ⟨rfl, b1⟩
 have W1 := Kept.mk (HB.out.trans (b1.mono HB.out.size))
 have X2 := (b1.block w.heap.size (by simp <;> omega)).trans ((heap_alloc_old _ _ (by simp; omega)).trans ((heap_alloc_old _ _ (by simp)).trans (heap_alloc_new w (.cells p.cs.toArray 33))))
 have X3 := (b1.block (w.heap.size + 1) (by simp <;> omega)).trans ((heap_alloc_old _ _ (by simp)).trans (heap_alloc2_new w (.cells p.cs.toArray 33) (.cells (Stt.cs ⟨r0, r1, r2, r3, ⟨mA, mem.length, mC⟩, ⟨sA, stack.length, sC⟩, pc⟩).toArray 36)))
 have X4 := (b1.block (w.heap.size + 1 + 1) (by simp <;> omega)).trans (q06 (o := (.cells (Stt.cs ⟨0, 0, 0, 0, Sl.none, Sl.none, 0⟩).toArray 36)) (by simp))
 have S1 : w.heap.size + 3 ≤ w1.heap.size := by have := b1.size; simp at this; omega
 clear b1 HB
 go_upto_region 2 with (fail)
 have bI := q00 w1 (.cells #[.int .i64 kind, .int .i64 op, .int .i64 xd, .bool ar, .int .i64 an, .bool br, .int .i64 bn, .string name, .int .i64 target] 53)
 have X2 := q01 X2 bI
 have X3 := q01 X3 bI
 have X4 := q01 X4 bI
 have X7 := heap_alloc_new w1 (.cells #[.int .i64 kind, .int .i64 op, .int .i64 xd, .bool ar, .int .i64 an, .bool br, .int .i64 bn, .string name, .int .i64 target] 53)
 have SZ : w1.heap.size + 1 ≤ (w1.alloc (.cells #[.int .i64 kind, .int .i64 op, .int .i64 xd, .bool ar, .int .i64 an, .bool br, .int .i64 bn, .string name, .int .i64 target] 53)).heap.size := by simp
 have WZ := Kept.mk (W1.out.trans (bI.mono W1.out.size))
 clear bI W1
 generalize w1.alloc (.cells #[.int .i64 kind, .int .i64 op, .int .i64 xd, .bool ar, .int .i64 an, .bool br, .int .i64 bn, .string name, .int .i64 target] 53) = wz at *
 generalize w1.heap.size = G at *
 have HPX := q24 X2
 have HSX := q24 X3
 have X7 : wz.heap[G]? = some (.cells (Inst.cs ⟨kind, op, xd, ar, an, br, bn, name, target⟩).toArray 53 (0, 0)) := X7
 have HIX := q24 X7
 have K2 := Kept.mk X2
 have K3 := Kept.mk X3
 have K4 := Kept.mk X4
 have K7 := Kept.mk X7
 clear X2 X3 X4 X7
 refine q1E (wz.heap.size) (G := fun _ => True) (ts := [
   .is (p.v),
   .is (Value.pointer (some ⟨w.heap.size + 1, 0, none⟩)),
   .is (Value.agg #[.int .i64 (r0), .int .i64 (r1), .int .i64 (r2), .int .i64 (r3)]),
   .is (Value.pointer (some ⟨G, 3, none⟩)),
   .is (Value.agg #[.bool ar, .int .i64 (an)]),
   .draws (Value.int .i64 (a)),
   .is (p.v),
   .is (Value.pointer (some ⟨w.heap.size + 1, 0, none⟩)),
   .is (Value.agg #[.int .i64 (r0), .int .i64 (r1), .int .i64 (r2), .int .i64 (r3)]),
   .is (Value.pointer (some ⟨G, 5, none⟩)),
   .is (Value.agg #[.bool br, .int .i64 (bn)]),
   .draws (Value.int .i64 (b)),
   .is (Value.int .i64 (a)),
   .is (Value.int .i64 (b))])
  (fin := []) (cs := []) (by kernel_rfl) rfl (by kernel_rfl) (by kernel_rfl)
  ⟨trivial, trivial, trivial, trivial, trivial, trivial, trivial, trivial, trivial, trivial, trivial, trivial, trivial, trivial, trivial⟩ (fun _ _ _ _ => trivial) (by simp) (by simp) trivial
  ⟨?_, ?_, ?_, ?_, ?_, ?_, ?_, ?_, ?_, ?_, ?_, ?_, ?_, ?_, trivial⟩ ?_
 ·intro vals w1 hB _ _
  refine q02 rfl ?_ (q04 rfl)
  exact q09 rfl (b := w.heap.size) (off := 0) (by kernel_rfl) p.cs (HPX.out w1 hB) Try.underlying33 rfl (by kernel_rfl)
 ·intro vals w1 hB _ _
  refine q02 rfl ?_ (q04 rfl)
  kernel_rfl
 ·intro vals w1 hB _ _
  refine q02 rfl ?_ (q04 rfl)
  exact q09 rfl (b := w.heap.size + 1) (off := 0) (by kernel_rfl) ((((Stt.cs ⟨r0, r1, r2, r3, ⟨mA, mem.length, mC⟩, ⟨sA, stack.length, sC⟩, pc⟩)).drop 0).take 4) ((HSX.out w1 hB).part 0 4) Try.underlying28 rfl (by kernel_rfl)
 ·intro vals w1 hB _ _
  refine q02 rfl ?_ (q04 rfl)
  kernel_rfl
 ·intro vals w1 hB _ _
  refine q02 rfl ?_ (q04 rfl)
  exact q09 rfl (b := G) (off := 3) (by kernel_rfl) ((((Inst.cs ⟨kind, op, xd, ar, an, br, bn, name, target⟩)).drop 3).take 2) ((HIX.out w1 hB).part 3 2) Try.underlying51 rfl (by kernel_rfl)
 ·intro vals w1 hB _ _
  refine q12 (f := 72) (args := #[p.v, .agg #[.int .i64 (r0), .int .i64 (r1), .int .i64 (r2), .int .i64 (r3)], .agg #[.bool ar, .int .i64 (an)]]) (w1 := w1) rfl (by kernel_rfl) ?_
  refine (HVA.out w1).mono ?_
  rintro e1 w2 ⟨rfl, h2⟩
  exact ⟨_, rfl, q18 rfl h2⟩
 ·intro vals w1 hB _ _
  refine q02 rfl ?_ (q04 rfl)
  exact q09 rfl (b := w.heap.size) (off := 0) (by kernel_rfl) p.cs (HPX.out w1 hB) Try.underlying33 rfl (by kernel_rfl)
 ·intro vals w1 hB _ _
  refine q02 rfl ?_ (q04 rfl)
  kernel_rfl
 ·intro vals w1 hB _ _
  refine q02 rfl ?_ (q04 rfl)
  exact q09 rfl (b := w.heap.size + 1) (off := 0) (by kernel_rfl) ((((Stt.cs ⟨r0, r1, r2, r3, ⟨mA, mem.length, mC⟩, ⟨sA, stack.length, sC⟩, pc⟩)).drop 0).take 4) ((HSX.out w1 hB).part 0 4) Try.underlying28 rfl (by kernel_rfl)
 ·intro vals w1 hB _ _
  refine q02 rfl ?_ (q04 rfl)
  kernel_rfl
 ·intro vals w1 hB _ _
  refine q02 rfl ?_ (q04 rfl)
  exact q09 rfl (b := G) (off := 5) (by kernel_rfl) ((((Inst.cs ⟨kind, op, xd, ar, an, br, bn, name, target⟩)).drop 5).take 2) ((HIX.out w1 hB).part 5 2) Try.underlying51 rfl (by kernel_rfl)
 ·intro vals w1 hB _ _
  refine q12 (f := 72) (args := #[p.v, .agg #[.int .i64 (r0), .int .i64 (r1), .int .i64 (r2), .int .i64 (r3)], .agg #[.bool br, .int .i64 (bn)]]) (w1 := w1) rfl (by kernel_rfl) ?_
  refine (HVB.out w1).mono ?_
  rintro e1 w2 ⟨rfl, h2⟩
  exact ⟨_, rfl, q18 rfl h2⟩
 ·intro vals w1 hB _ _
  refine q02 rfl ?_ (q04 rfl)
  kernel_rfl
 ·intro vals w1 hB _ _
  refine q02 rfl ?_ (q04 rfl)
  kernel_rfl
 intro vals w2 b2 _ hr
 clear hr
 simp only [fillT, Tell.is, Tell.draws, Act.put, List.setIfInBounds_toArray, List.set_cons_zero, List.set_cons_succ]
 have W2 := Kept.mk (WZ.out.trans (b2.mono WZ.out.size))
 have K2 := Kept.mk (q01 K2.out b2)
 have K3 := Kept.mk (q01 K3.out b2)
 have K4 := Kept.mk (q01 K4.out b2)
 have K7 := Kept.mk (q01 K7.out b2)
 have SZ2 : G + 1 ≤ w2.heap.size := Nat.le_trans SZ b2.size
 clear b2 HPX HSX HIX WZ SZ HVA HVB HAT
 have Y3 := fun j => cell_of_row w2 (w.heap.size + 1) j _ _ _ K3.out
 simp only [Stt.cs] at Y3
 go_upto_region 4 with (fail)
 have b5 := q00 w2 (.cells #[.int .i64 r0, .int .i64 r1, .int .i64 r2, .int .i64 r3, .slice mA mem.length mC, .slice sA stack.length sC, .int .i64 pc] 36)
 have K2 := Kept.mk (q01 K2.out b5)
 have K3 := Kept.mk (q01 K3.out b5)
 have K4 := Kept.mk (q01 K4.out b5)
 have K7 := Kept.mk (q01 K7.out b5)
 have K8 := Kept.mk (heap_alloc_new w2 (.cells #[.int .i64 r0, .int .i64 r1, .int .i64 r2, .int .i64 r3, .slice mA mem.length mC, .slice sA stack.length sC, .int .i64 pc] 36))
 have W5 := Kept.mk (W2.out.trans (b5.mono W2.out.size))
 have S5 : w2.heap.size + 1 ≤ (w2.alloc (.cells #[.int .i64 r0, .int .i64 r1, .int .i64 r2, .int .i64 r3, .slice mA mem.length mC, .slice sA stack.length sC, .int .i64 pc] 36)).heap.size := by simp
 have RS := Kept.mk (HC.out.past W5.out)
 have HMO : Kept (0 < mem.length → ∀ ad, mA = some ad → ad.block ≠ w2.heap.size) := ⟨fun h ad he => by
  obtain ⟨ad', e', _, hb', _⟩ := HC.out.st.mem.r.2 h
  have e' : mA = some ad' := e'
  rw [he] at e'
  injection e' with e'
  subst e'
  have := W2.out.size
  omega⟩
 have HSO : Kept (0 < stack.length → ∀ ad, sA = some ad → ad.block ≠ w2.heap.size) := ⟨fun h ad he => by
  obtain ⟨ad', e', _, hb', _⟩ := HC.out.st.stack.r.2 h
  have e' : sA = some ad' := e'
  rw [he] at e'
  injection e' with e'
  subst e'
  have := W2.out.size
  omega⟩
 clear b5 Y3
 generalize w2.alloc (.cells #[.int .i64 r0, .int .i64 r1, .int .i64 r2, .int .i64 r3, .slice mA mem.length mC, .slice sA stack.length sC, .int .i64 pc] 36) = w5 at *
 refine seq_clone w5 (w.heap.size + 1) w2.heap.size _ ⟨r0, r1, r2, r3, ⟨mA, mem.length, mC⟩, ⟨sA, stack.length, sC⟩, pc⟩ mem stack K3 K8 ⟨RS.out.st.mem.r⟩ ⟨rfl⟩ HMO ⟨RS.out.st.stack.r⟩ ⟨rfl⟩ HSO hml hsl rfl (by omega) (by omega) _ ?_
 rintro _ _ _ _ _ _ _ _ _ _ w9 sM sS hM hS hap hx8 hgr
 have OM := Kept.mk hM
 have OS := Kept.mk hS
 have AP := Kept.mk hap
 have K2 := Kept.mk ((hgr.block w.heap.size (by omega) (by intro h; injection h with h; omega)).trans K2.out)
 have K3 := Kept.mk ((hgr.block (w.heap.size + 1) (by omega) (by intro h; injection h with h; omega)).trans K3.out)
 have K4 := Kept.mk ((hgr.block (w.heap.size + 1 + 1) (by omega) (by intro h; injection h with h; omega)).trans K4.out)
 have K7 := Kept.mk ((hgr.block G (by omega) (by intro h; injection h with h; omega)).trans K7.out)
 have K8 := Kept.mk hx8
 have W9 := Kept.mk (Below.keepTo W5.out hgr (show w.heap.size ≤ w2.heap.size by omega) W5.out.size)
 have S9 : w5.heap.size ≤ w9.heap.size := hgr.size
 clear hM hS hap hx8 hgr RS HMO HSO W5 W2
 obtain ⟨N0, hN0⟩ : ∃ N, w5.heap.size = N := ⟨_, rfl⟩
 rw [hN0] at OM OS S5 S9
 obtain ⟨T, hT⟩ : ∃ T, w2.heap.size = T := ⟨_, rfl⟩
 rw [hT] at K8 S5 SZ2 ⊢
 clear hN0 hT
 have Y3 := fun j => cell_of_row w9 (w.heap.size + 1) j _ _ _ K3.out
 have F8 := fun j => frozen_of_row w9 T j _ _ K8.out
 simp only [Stt.cs] at Y3
 have Y2 := fun j => cell_of_row w9 w.heap.size j _ _ _ K2.out
 have Y8 := fun j => cell_of_row w9 T j _ _ _ K8.out
 simp only [Prg.cs] at Y2
 simp only [Stt.cs] at Y8
 have hT2 : T ≠ w.heap.size := by omega
 have hT3 : T ≠ w.heap.size + 1 := by omega
 have hT4 : T ≠ w.heap.size + 1 + 1 := by omega
 have hT7 : T ≠ G := by omega
 go_wp2_with fail
 refine (HMw.out (a + b) _).mono ?_
 rintro en w10 ⟨rfl, rfl⟩
 have WB := Kept.mk (W9.out.setCell (p := ⟨T, 6, none⟩) (show w.heap.size ≤ T by omega) (.int .i64 (pc + 1)))
 have K2 := Kept.mk (q03 (p := ⟨T, 6, none⟩) (u := .int .i64 (pc + 1)) K2.out hT2)
 have K3 := Kept.mk (q03 (p := ⟨T, 6, none⟩) (u := .int .i64 (pc + 1)) K3.out hT3)
 have K4 := Kept.mk (q03 (p := ⟨T, 6, none⟩) (u := .int .i64 (pc + 1)) K4.out hT4)
 have K7 := Kept.mk (q03 (p := ⟨T, 6, none⟩) (u := .int .i64 (pc + 1)) K7.out hT7)
 have X8 : Kept ((w9.setCell ⟨T, 6, none⟩ (.int .i64 (pc + 1))).heap[T]? = some (.cells (Stt.cs ⟨r0, r1, r2, r3, sM, sS, pc + 1⟩).toArray 36 (0, 0))) := ⟨heap_setCell_same w9 T 6 _ _ (.int .i64 (pc + 1)) K8.out⟩
 have OM := Kept.mk (OwnI.far OM.out (p := ⟨T, 6, none⟩) (show T < N0 by omega) (.int .i64 (pc + 1)))
 have OS := Kept.mk (OwnI.far OS.out (p := ⟨T, 6, none⟩) (show T < N0 by omega) (.int .i64 (pc + 1)))
 have SW : N0 ≤ (w9.setCell ⟨T, 6, none⟩ (.int .i64 (pc + 1))).heap.size := by simp [World.setCell]; omega
 clear K8 Y3 Y2 Y8 F8 W9 S9
 generalize w9.setCell ⟨T, 6, none⟩ (.int .i64 (pc + 1)) = wq at *
 have RC := Kept.mk (HC.out.past WB.out)
 have RT : Kept (StAll wq ⟨r0, r1, r2, r3, sM, sS, pc + 1⟩ ⟨r0, r1, r2, r3, mem, stack, pc + 1⟩) := ⟨⟨⟨rfl, rfl, rfl, rfl, OM.out.is, OS.out.is, rfl⟩, Tag.of_own OM.out, Tag.of_own OS.out⟩⟩
 have HADB := Kept.mk (HMB.out (a + b))
 have PP := Kept.mk (HP.out.past WB.out)
 generalize maskW p.W (a + b) = ad at *
 have Y2 := fun j => cell_of_row wq w.heap.size j _ _ _ K2.out
 have Y3 := fun j => cell_of_row wq (w.heap.size + 1) j _ _ _ K3.out
 have Y7 := fun j => cell_of_row wq G j _ _ _ K7.out
 have Y8 := fun j => cell_of_row wq T j _ _ _ X8.out
 have F8 := fun j => frozen_of_row wq T j _ _ X8.out
 simp only [Prg.cs] at Y2
 simp only [Stt.cs] at Y3 Y8
 simp only [Inst.cs] at Y7
 have hn34 : w.heap.size + 1 ≠ w.heap.size + 1 + 1 := by omega
 have hn43 : w.heap.size + 1 + 1 ≠ w.heap.size + 1 := by omega
 have hn4T := hT4.symm
 by_cases hk1 : kind = 1
 ·subst hk1
  have hF := HFO.out
  rw [if_pos rfl] at hF
  have HD5 := Kept.mk (fun w1 => HDO.out a b w1 (.inl rfl))
  generalize doW p.W op a b = V at *
  clear HFO HDO
  obtain ⟨hd0, hd1⟩ := HD.out
  have hbt : bits BinOp.and IntKind.i64 xd 3 = xd := by
   rcases (show xd = 0 ∨ xd = 1 ∨ xd = 2 ∨ xd = 3 by omega) with rfl | rfl | rfl | rfl <;> kernel_rfl
  obtain ⟨kd, rfl⟩ : ∃ kd : Nat, xd = (kd : Int) := ⟨xd.toNat, by omega⟩
  have hkd : kd < 4 := by omega
  obtain ⟨a0, a1, a2, a3, hx8, ea⟩ : ∃ a0 a1 a2 a3, (∀ wz : World, wz.heap[T]? = some (.cells (Stt.cs ⟨r0, r1, r2, r3, sM, sS, pc + 1⟩).toArray 36 (0, 0)) → (wz.setCell ⟨T, kd, none⟩ (.int .i64 V)).heap[T]? = some (.cells (Stt.cs ⟨a0, a1, a2, a3, sM, sS, pc + 1⟩).toArray 36 (0, 0))) ∧ setReg ⟨r0, r1, r2, r3, mem, stack, pc + 1⟩ (kd : Int) V = ⟨a0, a1, a2, a3, mem, stack, pc + 1⟩ := by
   have h := fun (wz : World) (hz : wz.heap[T]? = some (.cells (Stt.cs ⟨r0, r1, r2, r3, sM, sS, pc + 1⟩).toArray 36 (0, 0))) => heap_setCell_same wz T kd _ _ (.int .i64 V) hz
   rcases (show kd = 0 ∨ kd = 1 ∨ kd = 2 ∨ kd = 3 by omega) with rfl | rfl | rfl | rfl
   ·exact ⟨V, r1, r2, r3, h, rfl⟩
   ·exact ⟨r0, V, r2, r3, h, rfl⟩
   ·exact ⟨r0, r1, V, r3, h, rfl⟩
   ·exact ⟨r0, r1, r2, V, h, rfl⟩
  rw [ea] at hF
  obtain ⟨u0, hu0⟩ : ∃ u0 : Value, [Value.int .i64 r0, Value.int .i64 r1, Value.int .i64 r2, Value.int .i64 r3, Value.slice sM.A sM.n sM.c, Value.slice sS.A sS.n sS.c, Value.int .i64 (pc + 1)][kd]? = some u0 := by
   rcases (show kd = 0 ∨ kd = 1 ∨ kd = 2 ∨ kd = 3 by omega) with rfl | rfl | rfl | rfl <;> exact ⟨_, rfl⟩
  have HF := Kept.mk hF
  have HX8 := Kept.mk hx8
  clear hF HD ea hx8
  have HBT := Kept.mk hbt
  clear hbt
  have HPX := q27 K2.out (show w.heap.size < T by omega)
  have HIX := q27 K7.out (show G < T by omega)
  have HSX := q27 K3.out (show w.heap.size + 1 < T by omega)
  have hTq : T < wq.heap.size := by omega
  go_upto_region 10 with (fail)
  clear Y2 Y3 Y7 Y8 F8
  refine q19 (fun done vals w => BTz wq T 36 (Stt.cs ⟨r0, r1, r2, r3, sM, sS, pc + 1⟩) (Stt.cs ⟨a0, a1, a2, a3, sM, sS, pc + 1⟩) (done 15) w) (T) (G := fun _ => True) (ts := [
    .is (Value.pointer (some ⟨G, 2, none⟩)),
    .is (Value.int .i64 ((kd : Int))),
    .is (Value.int .i64 ((kd : Int))),
    .is (Value.pointer (some ⟨w.heap.size, 0, none⟩)),
    .is (Value.int .i64 (p.W)),
    .is (Value.pointer (some ⟨G, 1, none⟩)),
    .is (Value.int .i64 (op)),
    .is (Value.int .i64 (a)),
    .is (Value.int .i64 (b)),
    .draws (Value.tuple #[.int .i64 (V), .bool true]),
    .is (Value.tuple #[.int .i64 (V), .bool true]),
    .is (Value.int .i64 (V)),
    .is (Value.bool true),
    .is (Value.pointer (some ⟨T, 0, none⟩)),
    .is (Value.pointer (some ⟨T, kd, none⟩)),
    .sets (fun _ _ => True)])
   (fin := []) (cs := []) ?z0 ?zg (by kernel_rfl) rfl (by kernel_rfl) (by kernel_rfl)
   ⟨trivial, trivial, trivial, trivial, trivial, trivial, trivial, trivial, trivial, trivial, trivial, trivial, trivial, trivial, trivial, (fun _ _ _ _ _ => trivial), trivial⟩ (fun _ _ _ _ => trivial) ?cs (by omega) trivial
   ⟨?_, ?_, ?_, ?_, ?_, ?_, ?_, ?_, ?_, ?_, ?_, ?_, ?_, ?_, ?_, ?_, trivial⟩ ?_
  case z0 =>
   show _
   exact BTz.start X8.out
  case zg =>
   intro i done vals w1 w2 v hti hni hZ hb
   have hz := hZ
   ·skip
    have hz : BTz wq T 36 (Stt.cs ⟨r0, r1, r2, r3, sM, sS, pc + 1⟩) (Stt.cs ⟨a0, a1, a2, a3, sM, sS, pc + 1⟩) (done 15) w1 := hz
    have hs : ¬ 15 = i := by rintro rfl; cases hti
    exact hz.step hs hb
  case cs =>
   intro p hp v w1 w2 hG hR hE
   simp only [List.mem_cons, List.not_mem_nil, or_false] at hp
  ·intro done vals w1 hB _ hZ hni hcl hdn _
   refine q02 rfl ?_ ⟨q04 rfl, noturn rfl⟩
   kernel_rfl
  ·intro done vals w1 hB _ hZ hni hcl hdn _
   refine q02 rfl ?_ ⟨q04 rfl, noturn rfl⟩
   exact q0A rfl (by kernel_rfl) ((HIX.out w1 hB) 2 _ rfl) Try.underlying3 rfl
  ·intro done vals w1 hB _ hZ hni hcl hdn _
   refine q02 rfl ?_ ⟨q04 rfl, noturn rfl⟩
   exact Eq.trans (b := .ok (.value (.int .i64 (bits .and .i64 (kd : Int) 3))) w1) (by kernel_rfl) (by rw [HBT.out])
  ·intro done vals w1 hB _ hZ hni hcl hdn _
   refine q02 rfl ?_ ⟨q04 rfl, noturn rfl⟩
   kernel_rfl
  ·intro done vals w1 hB _ hZ hni hcl hdn _
   refine q02 rfl ?_ ⟨q04 rfl, noturn rfl⟩
   exact q0A rfl (by kernel_rfl) ((HPX.out w1 hB) 0 _ rfl) Try.underlying3 rfl
  ·intro done vals w1 hB _ hZ hni hcl hdn _
   refine q02 rfl ?_ ⟨q04 rfl, noturn rfl⟩
   kernel_rfl
  ·intro done vals w1 hB _ hZ hni hcl hdn _
   refine q02 rfl ?_ ⟨q04 rfl, noturn rfl⟩
   exact q0A rfl (by kernel_rfl) ((HIX.out w1 hB) 1 _ rfl) Try.underlying3 rfl
  ·intro done vals w1 hB _ hZ hni hcl hdn _
   refine q02 rfl ?_ ⟨q04 rfl, noturn rfl⟩
   kernel_rfl
  ·intro done vals w1 hB _ hZ hni hcl hdn _
   refine q02 rfl ?_ ⟨q04 rfl, noturn rfl⟩
   kernel_rfl
  ·intro done vals w1 hB _ hZ hni hcl hdn _
   refine q12 (f := 74) (args := #[.int .i64 (p.W), .int .i64 (op), .int .i64 (a), .int .i64 (b)]) (w1 := w1) rfl (by kernel_rfl) ?_
   refine (HD5.out w1).mono ?_
   rintro e1 w2 ⟨rfl, rfl⟩
   exact ⟨_, rfl, q18 rfl (Below.refl _ _), noturn rfl⟩
  ·intro done vals w1 hB _ hZ hni hcl hdn _
   refine q02 rfl ?_ ⟨q04 rfl, noturn rfl⟩
   kernel_rfl
  ·intro done vals w1 hB _ hZ hni hcl hdn _
   refine q02 rfl ?_ ⟨q04 rfl, noturn rfl⟩
   kernel_rfl
  ·intro done vals w1 hB _ hZ hni hcl hdn _
   refine q02 rfl ?_ ⟨q04 rfl, noturn rfl⟩
   kernel_rfl
  ·intro done vals w1 hB _ hZ hni hcl hdn _
   refine q02 rfl ?_ ⟨q04 rfl, noturn rfl⟩
   kernel_rfl
  ·intro done vals w1 hB _ hZ hni hcl hdn _
   refine q02 rfl ?_ ⟨q04 rfl, noturn rfl⟩
   exact exec_arr4 (k := kd) rfl (by kernel_rfl) (by kernel_rfl) hkd
  ·intro done vals w1 hB _ hZ hni hcl hdn _
   have hz : BTz wq T 36 (Stt.cs ⟨r0, r1, r2, r3, sM, sS, pc + 1⟩) (Stt.cs ⟨a0, a1, a2, a3, sM, sS, pc + 1⟩) (done 15) w1 := hZ
   have hx := hz.x
   rw [hni, if_neg (by decide)] at hx
   have hst := q08 w1 ⟨T, kd, none⟩ (.int .i64 (V))
   refine q14 (w' := w1.setCell ⟨T, kd, none⟩ (.int .i64 (V))) rfl ?_ ⟨q15 rfl (hB.setCell (Nat.le_refl _) _) trivial hst.size trivial, fun _ => hz.did hst (HX8.out _ hx)⟩
   exact q13 rfl (by kernel_rfl) (by kernel_rfl) (q34 ((cell_of_row w1 T kd _ _ _ hx).trans (by rw [List.getElem?_toArray]; exact hu0)) (frozen_of_row w1 T kd _ _ hx) (by kernel_rfl))
  intro done vals w12 b12 _ hall hZ hr
  have hz : BTz wq T 36 (Stt.cs ⟨r0, r1, r2, r3, sM, sS, pc + 1⟩) (Stt.cs ⟨a0, a1, a2, a3, sM, sS, pc + 1⟩) (done 15) w12 := hZ
  rw [hall 15 (by simp)] at hz
  clear hr
  simp only [fillT, Tell.is, Tell.draws, Act.put, List.setIfInBounds_toArray, List.set_cons_zero, List.set_cons_succ]
  have hg := hz.g
  have hx8 := hz.x
  rw [if_pos rfl] at hx8
  have RT : Kept (StAll w12 ⟨a0, a1, a2, a3, sM, sS, pc + 1⟩ ⟨a0, a1, a2, a3, mem, stack, pc + 1⟩) := ⟨(RT.out.row ⟨⟨_, X8.out⟩, hg⟩ (by decide)).with a0 a1 a2 a3 (pc + 1)⟩
  have RC := Kept.mk (RC.out.row ⟨⟨_, X8.out⟩, hg⟩ (by decide))
  have WB := Kept.mk (WB.out.trans (b12.mono (show w.heap.size ≤ T by omega)))
  have K2 := Kept.mk ((b12.block _ (by omega)).trans K2.out)
  have K3 := Kept.mk ((b12.block _ (by omega)).trans K3.out)
  have K4 := Kept.mk ((b12.block _ (by omega)).trans K4.out)
  have K7 := Kept.mk ((b12.block _ (by omega)).trans K7.out)
  have X8 := Kept.mk hx8
  clear hz hx8 hg b12 HPX HIX HSX HX8
  have YB := fun j => cell_of_row w12 (T) j _ _ _ X8.out
  have Y4 := fun j => cell_of_row w12 (w.heap.size + 1 + 1) j _ _ _ K4.out
  have F4 := fun j => frozen_of_row w12 (w.heap.size + 1 + 1) j _ _ K4.out
  simp only [Stt.cs, Sl.none] at YB Y4
  go_wp2_with fail
  have h := q38 (w := w) (old := ⟨0, 0, 0, 0, Sl.none, Sl.none, 0⟩) (e := ⟨a0, a1, a2, a3, sM, sS, pc + 1⟩) K4.out WB.out (show w.heap.size ≤ w.heap.size + 1 + 1 by omega) RT.out
  dsimp only at h
  obtain ⟨x4, st, wb⟩ := h
  refine q0C _ [Stt.v ⟨a0, a1, a2, a3, sM, sS, pc + 1⟩, .slice none 0 0, .int .i64 0] Try.results39 (.cons (.cell (cs := Stt.cs ⟨a0, a1, a2, a3, sM, sS, pc + 1⟩) (b := w.heap.size + 1 + 1) (off := 0) rfl rfl (q05 x4) Try.underlying36 rfl (by kernel_rfl)) (.cons (.tmp rfl) (.cons (.tmp rfl) .nil))) rfl ?_
  rw [← HF.out]
  exact ⟨⟨a0, a1, a2, a3, sM, sS, pc + 1⟩, _, rfl, st, wb⟩
 by_cases hk4 : kind = 4
 ·subst hk4
  have hF := HFO.out
  rw [if_neg (show ¬ (4 : Int) = 1 by decide), if_pos rfl] at hF
  by_cases ha : a = 0
  ·subst ha
   rw [if_neg (fun q => q rfl)] at hF
   have HF := Kept.mk hF
   clear hF HFO
   clear Y2 Y3 Y8 F8
   have YB := fun j => cell_of_row wq (T) j _ _ _ X8.out
   have Y4 := fun j => cell_of_row wq (w.heap.size + 1 + 1) j _ _ _ K4.out
   have F4 := fun j => frozen_of_row wq (w.heap.size + 1 + 1) j _ _ K4.out
   simp only [Stt.cs, Sl.none] at YB Y4
   go_wp2_with fail
   have h := q38 (w := w) (old := ⟨0, 0, 0, 0, Sl.none, Sl.none, 0⟩) (e := ⟨r0, r1, r2, r3, sM, sS, pc + 1⟩) K4.out WB.out (show w.heap.size ≤ w.heap.size + 1 + 1 by omega) RT.out
   dsimp only at h
   obtain ⟨x4, st, wb⟩ := h
   refine q0C _ [Stt.v ⟨r0, r1, r2, r3, sM, sS, pc + 1⟩, .slice none 0 0, .int .i64 0] Try.results39 (.cons (.cell (cs := Stt.cs ⟨r0, r1, r2, r3, sM, sS, pc + 1⟩) (b := w.heap.size + 1 + 1) (off := 0) rfl rfl (q05 x4) Try.underlying36 rfl (by kernel_rfl)) (.cons (.tmp rfl) (.cons (.tmp rfl) .nil))) rfl ?_
   rw [← HF.out]
   exact ⟨⟨r0, r1, r2, r3, sM, sS, pc + 1⟩, _, rfl, st, wb⟩
  ·rw [if_pos ha] at hF
   have ka : (a != 0) = true := by simpa using ha
   clear HFO ha
   obtain ⟨hd0, hd1⟩ := HD.out
   have hbt : bits BinOp.and IntKind.i64 xd 3 = xd := by
    rcases (show xd = 0 ∨ xd = 1 ∨ xd = 2 ∨ xd = 3 by omega) with rfl | rfl | rfl | rfl <;> kernel_rfl
   obtain ⟨kd, rfl⟩ : ∃ kd : Nat, xd = (kd : Int) := ⟨xd.toNat, by omega⟩
   have hkd : kd < 4 := by omega
   obtain ⟨a0, a1, a2, a3, hx8, ea⟩ : ∃ a0 a1 a2 a3, (∀ wz : World, wz.heap[T]? = some (.cells (Stt.cs ⟨r0, r1, r2, r3, sM, sS, pc + 1⟩).toArray 36 (0, 0)) → (wz.setCell ⟨T, kd, none⟩ (.int .i64 b)).heap[T]? = some (.cells (Stt.cs ⟨a0, a1, a2, a3, sM, sS, pc + 1⟩).toArray 36 (0, 0))) ∧ setReg ⟨r0, r1, r2, r3, mem, stack, pc + 1⟩ (kd : Int) b = ⟨a0, a1, a2, a3, mem, stack, pc + 1⟩ := by
    have h := fun (wz : World) (hz : wz.heap[T]? = some (.cells (Stt.cs ⟨r0, r1, r2, r3, sM, sS, pc + 1⟩).toArray 36 (0, 0))) => heap_setCell_same wz T kd _ _ (.int .i64 b) hz
    rcases (show kd = 0 ∨ kd = 1 ∨ kd = 2 ∨ kd = 3 by omega) with rfl | rfl | rfl | rfl
    ·exact ⟨b, r1, r2, r3, h, rfl⟩
    ·exact ⟨r0, b, r2, r3, h, rfl⟩
    ·exact ⟨r0, r1, b, r3, h, rfl⟩
    ·exact ⟨r0, r1, r2, b, h, rfl⟩
   rw [ea] at hF
   obtain ⟨u0, hu0⟩ : ∃ u0 : Value, [Value.int .i64 r0, Value.int .i64 r1, Value.int .i64 r2, Value.int .i64 r3, Value.slice sM.A sM.n sM.c, Value.slice sS.A sS.n sS.c, Value.int .i64 (pc + 1)][kd]? = some u0 := by
    rcases (show kd = 0 ∨ kd = 1 ∨ kd = 2 ∨ kd = 3 by omega) with rfl | rfl | rfl | rfl <;> exact ⟨_, rfl⟩
   have HF := Kept.mk hF
   have HX8 := Kept.mk hx8
   clear hF HD ea hx8
   go_upto_region 48 with (fail)
   have RT : Kept (StAll (wq.setCell ⟨T, kd, none⟩ (.int .i64 (b))) ⟨a0, a1, a2, a3, sM, sS, pc + 1⟩ ⟨a0, a1, a2, a3, mem, stack, pc + 1⟩) := ⟨(RT.out.row (q0F (j := kd) X8.out (.int .i64 (b))) (by decide)).with a0 a1 a2 a3 (pc + 1)⟩
   have RC := Kept.mk (RC.out.row (q0F (j := kd) X8.out (.int .i64 (b))) (by decide))
   have WB := Kept.mk (WB.out.setCell (p := ⟨T, kd, none⟩) (show w.heap.size ≤ T by omega) (.int .i64 (b)))
   have K2 := Kept.mk (q03 (p := ⟨T, kd, none⟩) (u := .int .i64 (b)) K2.out hT2)
   have K3 := Kept.mk (q03 (p := ⟨T, kd, none⟩) (u := .int .i64 (b)) K3.out hT3)
   have K4 := Kept.mk (q03 (p := ⟨T, kd, none⟩) (u := .int .i64 (b)) K4.out hT4)
   have K7 := Kept.mk (q03 (p := ⟨T, kd, none⟩) (u := .int .i64 (b)) K7.out hT7)
   have X8 := Kept.mk (HX8.out _ X8.out)
   clear Y2 Y3 Y7 Y8 F8 HX8
   generalize (wq.setCell ⟨T, kd, none⟩ (.int .i64 (b))) = wr at *
   have YB := fun j => cell_of_row wr (T) j _ _ _ X8.out
   have Y4 := fun j => cell_of_row wr (w.heap.size + 1 + 1) j _ _ _ K4.out
   have F4 := fun j => frozen_of_row wr (w.heap.size + 1 + 1) j _ _ K4.out
   simp only [Stt.cs, Sl.none] at YB Y4
   go_wp2_with fail
   have h := q38 (w := w) (old := ⟨0, 0, 0, 0, Sl.none, Sl.none, 0⟩) (e := ⟨a0, a1, a2, a3, sM, sS, pc + 1⟩) K4.out WB.out (show w.heap.size ≤ w.heap.size + 1 + 1 by omega) RT.out
   dsimp only at h
   obtain ⟨x4, st, wb⟩ := h
   refine q0C _ [Stt.v ⟨a0, a1, a2, a3, sM, sS, pc + 1⟩, .slice none 0 0, .int .i64 0] Try.results39 (.cons (.cell (cs := Stt.cs ⟨a0, a1, a2, a3, sM, sS, pc + 1⟩) (b := w.heap.size + 1 + 1) (off := 0) rfl rfl (q05 x4) Try.underlying36 rfl (by kernel_rfl)) (.cons (.tmp rfl) (.cons (.tmp rfl) .nil))) rfl ?_
   rw [← HF.out]
   exact ⟨⟨a0, a1, a2, a3, sM, sS, pc + 1⟩, _, rfl, st, wb⟩
 by_cases hk2 : kind = 2
 ·subst hk2
  have hF := HFO.out
  rw [if_neg (show ¬ (2 : Int) = 1 by decide), if_neg (show ¬ (2 : Int) = 4 by decide), if_pos rfl] at hF
  obtain ⟨had0, -⟩ := HADB.out
  by_cases hle : (mem.length : Int) ≤ ad
  ·rw [if_pos hle] at hF
   have hq : decide (ad ≥ (mem.length : Int)) = true := by simpa using hle
   have HF := Kept.mk hF
   clear hF HFO
   clear Y2 Y3 Y8 F8
   have YB := fun j => cell_of_row wq (w.heap.size + 1) j _ _ _ K3.out
   have Y4 := fun j => cell_of_row wq (w.heap.size + 1 + 1) j _ _ _ K4.out
   have F4 := fun j => frozen_of_row wq (w.heap.size + 1 + 1) j _ _ K4.out
   simp only [Stt.cs, Sl.none] at YB Y4
   go_wp2_with fail
   have h := q38 (w := w) (old := ⟨0, 0, 0, 0, Sl.none, Sl.none, 0⟩) (e := (⟨r0, r1, r2, r3, ⟨mA, mem.length, mC⟩, ⟨sA, stack.length, sC⟩, pc⟩ : Stt)) K4.out WB.out (show w.heap.size ≤ w.heap.size + 1 + 1 by omega) RC.out
   dsimp only at h
   obtain ⟨x4, st, wb⟩ := h
   refine q0C _ [Stt.v (⟨r0, r1, r2, r3, ⟨mA, mem.length, mC⟩, ⟨sA, stack.length, sC⟩, pc⟩ : Stt), .slice none 0 0, .int .i64 2] Try.results39 (.cons (.cell (cs := Stt.cs (⟨r0, r1, r2, r3, ⟨mA, mem.length, mC⟩, ⟨sA, stack.length, sC⟩, pc⟩ : Stt)) (b := w.heap.size + 1 + 1) (off := 0) rfl rfl (q05 x4) Try.underlying36 rfl (by kernel_rfl)) (.cons (.tmp rfl) (.cons (.tmp rfl) .nil))) rfl ?_
   rw [← HF.out]
   exact ⟨(⟨r0, r1, r2, r3, ⟨mA, mem.length, mC⟩, ⟨sA, stack.length, sC⟩, pc⟩ : Stt), _, rfl, st, wb⟩
  ·rw [if_neg hle] at hF
   have hq : decide (ad ≥ (mem.length : Int)) = false := by simpa using hle
   obtain ⟨k, rfl⟩ : ∃ k : Nat, ad = (k : Int) := ⟨ad.toNat, by omega⟩
   have hk : k < mem.length := by omega
   rw [Int.toNat_natCast] at hF
   clear HFO had0
   rw [List.getElem?_eq_getElem hk, Option.getD_some] at hF
   obtain ⟨mb, mo, e0, hmb, hmc⟩ := HC.out.st.mem.r.at_ hk
   have e0 : mA = some ⟨mb, mo, none⟩ := e0
   subst e0
   obtain ⟨hd0, hd1⟩ := HD.out
   have hbt : bits BinOp.and IntKind.i64 xd 3 = xd := by
    rcases (show xd = 0 ∨ xd = 1 ∨ xd = 2 ∨ xd = 3 by omega) with rfl | rfl | rfl | rfl <;> kernel_rfl
   obtain ⟨kd, rfl⟩ : ∃ kd : Nat, xd = (kd : Int) := ⟨xd.toNat, by omega⟩
   have hkd : kd < 4 := by omega
   obtain ⟨a0, a1, a2, a3, hx8, ea⟩ : ∃ a0 a1 a2 a3, (∀ wz : World, wz.heap[T]? = some (.cells (Stt.cs ⟨r0, r1, r2, r3, sM, sS, pc + 1⟩).toArray 36 (0, 0)) → (wz.setCell ⟨T, kd, none⟩ (.int .i64 mem[k])).heap[T]? = some (.cells (Stt.cs ⟨a0, a1, a2, a3, sM, sS, pc + 1⟩).toArray 36 (0, 0))) ∧ setReg ⟨r0, r1, r2, r3, mem, stack, pc + 1⟩ (kd : Int) mem[k] = ⟨a0, a1, a2, a3, mem, stack, pc + 1⟩ := by
    have h := fun (wz : World) (hz : wz.heap[T]? = some (.cells (Stt.cs ⟨r0, r1, r2, r3, sM, sS, pc + 1⟩).toArray 36 (0, 0))) => heap_setCell_same wz T kd _ _ (.int .i64 mem[k]) hz
    rcases (show kd = 0 ∨ kd = 1 ∨ kd = 2 ∨ kd = 3 by omega) with rfl | rfl | rfl | rfl
    ·exact ⟨mem[k], r1, r2, r3, h, rfl⟩
    ·exact ⟨r0, mem[k], r2, r3, h, rfl⟩
    ·exact ⟨r0, r1, mem[k], r3, h, rfl⟩
    ·exact ⟨r0, r1, r2, mem[k], h, rfl⟩
   rw [ea] at hF
   obtain ⟨u0, hu0⟩ : ∃ u0 : Value, [Value.int .i64 r0, Value.int .i64 r1, Value.int .i64 r2, Value.int .i64 r3, Value.slice sM.A sM.n sM.c, Value.slice sS.A sS.n sS.c, Value.int .i64 (pc + 1)][kd]? = some u0 := by
    rcases (show kd = 0 ∨ kd = 1 ∨ kd = 2 ∨ kd = 3 by omega) with rfl | rfl | rfl | rfl <;> exact ⟨_, rfl⟩
   have HF := Kept.mk hF
   have HX8 := Kept.mk hx8
   clear hF HD ea hx8
   have HBT := Kept.mk hbt
   clear hbt
   have HPX := q27 K2.out (show w.heap.size < T by omega)
   have HIX := q27 K7.out (show G < T by omega)
   have HSX := q27 K3.out (show w.heap.size + 1 < T by omega)
   have hTq : T < wq.heap.size := by omega
   have HEX : Kept (∀ w1, Below T wq w1 → CellsAt w1 mb (mo + k) [.int .i64 mem[k]]) := ⟨fun w1 hb => CellsAt.one ((hb.cell (p := ⟨mb, mo + k, none⟩) (show mb < T by omega)).trans ((WB.out.cell (p := ⟨mb, mo + k, none⟩) hmb).trans hmc))⟩
   clear hmc
   go_upto_region 17 with (fail)
   clear Y2 Y3 Y7 Y8 F8
   refine q19 (fun done vals w => BTz wq T 36 (Stt.cs ⟨r0, r1, r2, r3, sM, sS, pc + 1⟩) (Stt.cs ⟨a0, a1, a2, a3, sM, sS, pc + 1⟩) (done 10) w) (T) (G := fun _ => True) (ts := [
     .is (Value.pointer (some ⟨G, 2, none⟩)),
     .is (Value.int .i64 ((kd : Int))),
     .is (Value.int .i64 ((kd : Int))),
     .is (Value.pointer (some ⟨w.heap.size + 1, 4, none⟩)),
     .is (Value.slice ((some ⟨mb, mo, none⟩)) mem.length mC),
     .is (Value.int .i64 ((k : Int))),
     .is (Value.pointer (some ⟨mb, mo + k, none⟩)),
     .is (Value.int .i64 (mem[k])),
     .is (Value.pointer (some ⟨T, 0, none⟩)),
     .is (Value.pointer (some ⟨T, kd, none⟩)),
     .sets (fun _ _ => True)])
    (fin := []) (cs := []) ?z0 ?zg (by kernel_rfl) rfl (by kernel_rfl) (by kernel_rfl)
    ⟨trivial, trivial, trivial, trivial, trivial, trivial, trivial, trivial, trivial, trivial, (fun _ _ _ _ _ => trivial), trivial⟩ (fun _ _ _ _ => trivial) ?cs (by omega) trivial
    ⟨?_, ?_, ?_, ?_, ?_, ?_, ?_, ?_, ?_, ?_, ?_, trivial⟩ ?_
   case z0 =>
    show _
    exact BTz.start X8.out
   case zg =>
    intro i done vals w1 w2 v hti hni hZ hb
    have hz := hZ
    ·skip
     have hz : BTz wq T 36 (Stt.cs ⟨r0, r1, r2, r3, sM, sS, pc + 1⟩) (Stt.cs ⟨a0, a1, a2, a3, sM, sS, pc + 1⟩) (done 10) w1 := hz
     have hs : ¬ 10 = i := by rintro rfl; cases hti
     exact hz.step hs hb
   case cs =>
    intro p hp v w1 w2 hG hR hE
    simp only [List.mem_cons, List.not_mem_nil, or_false] at hp
   ·intro done vals w1 hB _ hZ hni hcl hdn _
    refine q02 rfl ?_ ⟨q04 rfl, noturn rfl⟩
    kernel_rfl
   ·intro done vals w1 hB _ hZ hni hcl hdn _
    refine q02 rfl ?_ ⟨q04 rfl, noturn rfl⟩
    exact q0A rfl (by kernel_rfl) ((HIX.out w1 hB) 2 _ rfl) Try.underlying3 rfl
   ·intro done vals w1 hB _ hZ hni hcl hdn _
    refine q02 rfl ?_ ⟨q04 rfl, noturn rfl⟩
    exact Eq.trans (b := .ok (.value (.int .i64 (bits .and .i64 (kd : Int) 3))) w1) (by kernel_rfl) (by rw [HBT.out])
   ·intro done vals w1 hB _ hZ hni hcl hdn _
    refine q02 rfl ?_ ⟨q04 rfl, noturn rfl⟩
    kernel_rfl
   ·intro done vals w1 hB _ hZ hni hcl hdn _
    refine q02 rfl ?_ ⟨q04 rfl, noturn rfl⟩
    exact q0A rfl (by kernel_rfl) ((HSX.out w1 hB) 4 _ rfl) Try.underlying22 rfl
   ·intro done vals w1 hB _ hZ hni hcl hdn _
    refine q02 rfl ?_ ⟨q04 rfl, noturn rfl⟩
    kernel_rfl
   ·intro done vals w1 hB _ hZ hni hcl hdn _
    refine q02 rfl ?_ ⟨q04 rfl, noturn rfl⟩
    exact exec_index1 (k := k) (n := mem.length) (c := mC) rfl (by kernel_rfl) (by kernel_rfl) Try.underlying22 (by kernel_rfl) (by omega)
   ·intro done vals w1 hB _ hZ hni hcl hdn _
    refine q02 rfl ?_ ⟨q04 rfl, noturn rfl⟩
    exact q0A rfl (by kernel_rfl) ((HEX.out w1 hB) 0 _ rfl) Try.underlying3 rfl
   ·intro done vals w1 hB _ hZ hni hcl hdn _
    refine q02 rfl ?_ ⟨q04 rfl, noturn rfl⟩
    kernel_rfl
   ·intro done vals w1 hB _ hZ hni hcl hdn _
    refine q02 rfl ?_ ⟨q04 rfl, noturn rfl⟩
    exact exec_arr4 (k := kd) rfl (by kernel_rfl) (by kernel_rfl) hkd
   ·intro done vals w1 hB _ hZ hni hcl hdn _
    have hz : BTz wq T 36 (Stt.cs ⟨r0, r1, r2, r3, sM, sS, pc + 1⟩) (Stt.cs ⟨a0, a1, a2, a3, sM, sS, pc + 1⟩) (done 10) w1 := hZ
    have hx := hz.x
    rw [hni, if_neg (by decide)] at hx
    have hst := q08 w1 ⟨T, kd, none⟩ (.int .i64 (mem[k]))
    refine q14 (w' := w1.setCell ⟨T, kd, none⟩ (.int .i64 (mem[k]))) rfl ?_ ⟨q15 rfl (hB.setCell (Nat.le_refl _) _) trivial hst.size trivial, fun _ => hz.did hst (HX8.out _ hx)⟩
    exact q13 rfl (by kernel_rfl) (by kernel_rfl) (q34 ((cell_of_row w1 T kd _ _ _ hx).trans (by rw [List.getElem?_toArray]; exact hu0)) (frozen_of_row w1 T kd _ _ hx) (by kernel_rfl))
   intro done vals w12 b12 _ hall hZ hr
   have hz : BTz wq T 36 (Stt.cs ⟨r0, r1, r2, r3, sM, sS, pc + 1⟩) (Stt.cs ⟨a0, a1, a2, a3, sM, sS, pc + 1⟩) (done 10) w12 := hZ
   rw [hall 10 (by simp)] at hz
   clear hr
   simp only [fillT, Tell.is, Act.put, List.setIfInBounds_toArray, List.set_cons_zero, List.set_cons_succ]
   have hg := hz.g
   have hx8 := hz.x
   rw [if_pos rfl] at hx8
   have RT : Kept (StAll w12 ⟨a0, a1, a2, a3, sM, sS, pc + 1⟩ ⟨a0, a1, a2, a3, mem, stack, pc + 1⟩) := ⟨(RT.out.row ⟨⟨_, X8.out⟩, hg⟩ (by decide)).with a0 a1 a2 a3 (pc + 1)⟩
   have RC := Kept.mk (RC.out.row ⟨⟨_, X8.out⟩, hg⟩ (by decide))
   have WB := Kept.mk (WB.out.trans (b12.mono (show w.heap.size ≤ T by omega)))
   have K2 := Kept.mk ((b12.block _ (by omega)).trans K2.out)
   have K3 := Kept.mk ((b12.block _ (by omega)).trans K3.out)
   have K4 := Kept.mk ((b12.block _ (by omega)).trans K4.out)
   have K7 := Kept.mk ((b12.block _ (by omega)).trans K7.out)
   have X8 := Kept.mk hx8
   clear hz hx8 hg b12 HPX HIX HSX HX8
   clear HEX
   go_upto_region 18 with (fail)
   have ba := q00 w12 (.cells #[.int .i64 1, .int .i64 ((k : Int))] 124)
   have K4a := Kept.mk (q01 K4.out ba)
   have Ka := Kept.mk (q01 X8.out ba)
   have WBa := Kept.mk (WB.out.trans (ba.mono WB.out.size))
   have STa := Kept.mk (RT.out.past ba)
   have Y4 := fun j => cell_of_row (w12.alloc (.cells #[.int .i64 1, .int .i64 ((k : Int))] 124)) (w.heap.size + 1 + 1) j _ _ _ K4a.out
   have F4 := fun j => frozen_of_row (w12.alloc (.cells #[.int .i64 1, .int .i64 ((k : Int))] 124)) (w.heap.size + 1 + 1) j _ _ K4a.out
   clear ba
   have YB := fun j => cell_of_row w12 (T) j _ _ _ X8.out
   simp only [Stt.cs, Sl.none] at YB Y4
   go_wp2_with fail
   have h := q38 (w := w) (old := ⟨0, 0, 0, 0, Sl.none, Sl.none, 0⟩) (e := ⟨a0, a1, a2, a3, sM, sS, pc + 1⟩) K4a.out WBa.out (show w.heap.size ≤ w.heap.size + 1 + 1 by omega) STa.out
   dsimp only at h
   obtain ⟨x4, st, wb⟩ := h
   refine q0C _ [Stt.v ⟨a0, a1, a2, a3, sM, sS, pc + 1⟩, .slice (some ⟨w12.heap.size, 0, none⟩) 1 1, .int .i64 0] Try.results39 (.cons (.cell (cs := Stt.cs ⟨a0, a1, a2, a3, sM, sS, pc + 1⟩) (b := w.heap.size + 1 + 1) (off := 0) rfl rfl (q05 x4) Try.underlying36 rfl (by kernel_rfl)) (.cons (.tmp rfl) (.cons (.tmp rfl) .nil))) rfl ?_
   rw [← HF.out]
   exact ⟨⟨a0, a1, a2, a3, sM, sS, pc + 1⟩, _, rfl, st, wb⟩
 by_cases hk3 : kind = 3
 ·subst hk3
  have hF := HFO.out
  rw [if_neg (show ¬ (3 : Int) = 1 by decide), if_neg (show ¬ (3 : Int) = 4 by decide), if_neg (show ¬ (3 : Int) = 2 by decide), if_pos rfl] at hF
  obtain ⟨had0, -⟩ := HADB.out
  by_cases hle : (mem.length : Int) ≤ ad
  ·rw [if_pos hle] at hF
   have hq : decide (ad ≥ (mem.length : Int)) = true := by simpa using hle
   have HF := Kept.mk hF
   clear hF HFO
   clear Y2 Y3 Y8 F8
   have YB := fun j => cell_of_row wq (w.heap.size + 1) j _ _ _ K3.out
   have Y4 := fun j => cell_of_row wq (w.heap.size + 1 + 1) j _ _ _ K4.out
   have F4 := fun j => frozen_of_row wq (w.heap.size + 1 + 1) j _ _ K4.out
   simp only [Stt.cs, Sl.none] at YB Y4
   go_wp2_with fail
   have h := q38 (w := w) (old := ⟨0, 0, 0, 0, Sl.none, Sl.none, 0⟩) (e := (⟨r0, r1, r2, r3, ⟨mA, mem.length, mC⟩, ⟨sA, stack.length, sC⟩, pc⟩ : Stt)) K4.out WB.out (show w.heap.size ≤ w.heap.size + 1 + 1 by omega) RC.out
   dsimp only at h
   obtain ⟨x4, st, wb⟩ := h
   refine q0C _ [Stt.v (⟨r0, r1, r2, r3, ⟨mA, mem.length, mC⟩, ⟨sA, stack.length, sC⟩, pc⟩ : Stt), .slice none 0 0, .int .i64 2] Try.results39 (.cons (.cell (cs := Stt.cs (⟨r0, r1, r2, r3, ⟨mA, mem.length, mC⟩, ⟨sA, stack.length, sC⟩, pc⟩ : Stt)) (b := w.heap.size + 1 + 1) (off := 0) rfl rfl (q05 x4) Try.underlying36 rfl (by kernel_rfl)) (.cons (.tmp rfl) (.cons (.tmp rfl) .nil))) rfl ?_
   rw [← HF.out]
   exact ⟨(⟨r0, r1, r2, r3, ⟨mA, mem.length, mC⟩, ⟨sA, stack.length, sC⟩, pc⟩ : Stt), _, rfl, st, wb⟩
  ·rw [if_neg hle] at hF
   have hq : decide (ad ≥ (mem.length : Int)) = false := by simpa using hle
   obtain ⟨k, rfl⟩ : ∃ k : Nat, ad = (k : Int) := ⟨ad.toNat, by omega⟩
   have hk : k < mem.length := by omega
   rw [Int.toNat_natCast] at hF
   clear HFO had0
   obtain ⟨hd0, hd1⟩ := HD.out
   have hbt : bits BinOp.and IntKind.i64 xd 3 = xd := by
    rcases (show xd = 0 ∨ xd = 1 ∨ xd = 2 ∨ xd = 3 by omega) with rfl | rfl | rfl | rfl <;> kernel_rfl
   obtain ⟨kd, rfl⟩ : ∃ kd : Nat, xd = (kd : Int) := ⟨xd.toNat, by omega⟩
   have hkd : kd < 4 := by omega
   have hu0 : [Value.int .i64 r0, Value.int .i64 r1, Value.int .i64 r2, Value.int .i64 r3, Value.slice mA mem.length mC, Value.slice sA stack.length sC, Value.int .i64 pc][kd]? = some (.int .i64 (regsAt r0 r1 r2 r3 (kd : Int))) := by
    rcases (show kd = 0 ∨ kd = 1 ∨ kd = 2 ∨ kd = 3 by omega) with rfl | rfl | rfl | rfl <;> rfl
   generalize regsAt r0 r1 r2 r3 (kd : Int) = u at *
   obtain ⟨MA, Mn, Mc⟩ := sM
   have hmn : Mn = mem.length := OM.out.is.n
   subst hmn
   obtain ⟨gm, e0, hgm, ⟨cur, hcur⟩, hcm, hfm, hset⟩ := OwnI.elS OM.out hk u
   have e0 : MA = some ⟨gm, 0, none⟩ := e0
   subst e0
   have hmc : mem.length ≤ Mc := OM.out.is.c
   have HCU := Kept.mk hcur
   have HST := Kept.mk hset
   have HF := Kept.mk hF
   dsimp only at Y8 X8 AP OM
   have HBT := Kept.mk hbt
   clear hF HD hcur hset hbt hcm hfm HCU HST
   have HIX := q27 K7.out (show G < N0 by omega)
   have HSX := q27 K3.out (show w.heap.size + 1 < N0 by omega)
   have HTX := q27 X8.out (show T < N0 by omega)
   go_upto_region 22 with (fail)
   clear Y2 Y3 Y7 Y8 F8
   refine q19 (fun done vals w => RTz wq N0 gm (.slice (some ⟨gm, 0, none⟩) mem.length Mc) mem (mem.set k u) (done 10) w) (N0) (G := fun _ => True) (ts := [
     .is (Value.pointer (some ⟨T, 4, none⟩)),
     .is (Value.slice ((some ⟨gm, 0, none⟩)) mem.length Mc),
     .is (Value.int .i64 ((k : Int))),
     .is (Value.pointer (some ⟨G, 2, none⟩)),
     .is (Value.int .i64 ((kd : Int))),
     .is (Value.int .i64 ((kd : Int))),
     .is (Value.pointer (some ⟨w.heap.size + 1, 0, none⟩)),
     .is (Value.pointer (some ⟨w.heap.size + 1, kd, none⟩)),
     .is (Value.int .i64 (u)),
     .is (Value.pointer (some ⟨gm, k, none⟩)),
     .sets (fun _ _ => True)])
    (fin := []) (cs := []) ?z0 ?zg (by kernel_rfl) rfl (by kernel_rfl) (by kernel_rfl)
    ⟨trivial, trivial, trivial, trivial, trivial, trivial, trivial, trivial, trivial, trivial, (fun _ _ _ _ _ => trivial), trivial⟩ (fun _ _ _ _ => trivial) ?cs (by omega) trivial
    ⟨?_, ?_, ?_, ?_, ?_, ?_, ?_, ?_, ?_, ?_, ?_, trivial⟩ ?_
   case z0 =>
    show _
    exact RTz.start OM.out
   case zg =>
    intro i done vals w1 w2 v hti hni hZ hb
    have hz := hZ
    ·skip
     have hz : RTz wq N0 gm (.slice (some ⟨gm, 0, none⟩) mem.length Mc) mem (mem.set k u) (done 10) w1 := hz
     have hs : ¬ 10 = i := by rintro rfl; cases hti
     exact hz.step hs hb
   case cs =>
    intro p hp v w1 w2 hG hR hE
    simp only [List.mem_cons, List.not_mem_nil, or_false] at hp
   ·intro done vals w1 hB _ hZ hni hcl hdn _
    refine q02 rfl ?_ ⟨q04 rfl, noturn rfl⟩
    kernel_rfl
   ·intro done vals w1 hB _ hZ hni hcl hdn _
    refine q02 rfl ?_ ⟨q04 rfl, noturn rfl⟩
    exact q0A rfl (by kernel_rfl) ((HTX.out w1 hB) 4 _ rfl) Try.underlying22 rfl
   ·intro done vals w1 hB _ hZ hni hcl hdn _
    refine q02 rfl ?_ ⟨q04 rfl, noturn rfl⟩
    kernel_rfl
   ·intro done vals w1 hB _ hZ hni hcl hdn _
    refine q02 rfl ?_ ⟨q04 rfl, noturn rfl⟩
    kernel_rfl
   ·intro done vals w1 hB _ hZ hni hcl hdn _
    refine q02 rfl ?_ ⟨q04 rfl, noturn rfl⟩
    exact q0A rfl (by kernel_rfl) ((HIX.out w1 hB) 2 _ rfl) Try.underlying3 rfl
   ·intro done vals w1 hB _ hZ hni hcl hdn _
    refine q02 rfl ?_ ⟨q04 rfl, noturn rfl⟩
    exact Eq.trans (b := .ok (.value (.int .i64 (bits .and .i64 (kd : Int) 3))) w1) (by kernel_rfl) (by rw [HBT.out])
   ·intro done vals w1 hB _ hZ hni hcl hdn _
    refine q02 rfl ?_ ⟨q04 rfl, noturn rfl⟩
    kernel_rfl
   ·intro done vals w1 hB _ hZ hni hcl hdn _
    refine q02 rfl ?_ ⟨q04 rfl, noturn rfl⟩
    exact exec_arr4 (k := kd) rfl (by kernel_rfl) (by kernel_rfl) hkd
   ·intro done vals w1 hB _ hZ hni hcl hdn _
    refine q02 rfl ?_ ⟨q04 rfl, noturn rfl⟩
    exact q0A rfl (by kernel_rfl) (by have := HSX.out w1 hB kd _ hu0; rwa [Nat.zero_add] at this) Try.underlying3 rfl
   ·intro done vals w1 hB _ hZ hni hcl hdn _
    refine q02 rfl ?_ ⟨q04 rfl, noturn rfl⟩
    exact (exec_index1 (k := k) (n := mem.length) (c := Mc) rfl (by kernel_rfl) (by kernel_rfl) Try.underlying22 (by kernel_rfl) hk).trans (by rw [Nat.zero_add])
   ·intro done vals w1 hB _ hZ hni hcl hdn _
    have hz : RTz wq N0 gm (.slice (some ⟨gm, 0, none⟩) mem.length Mc) mem (mem.set k u) (done 10) w1 := hZ
    have hx := hz.x
    rw [hni, if_neg (by decide)] at hx
    obtain ⟨g2, e2, -, -, hc2, hf2, hs2⟩ := OwnI.elS hx hk u
    have e2 : some (Addr.mk gm 0 none) = some ⟨g2, 0, none⟩ := e2
    injection e2 with e2
    injection e2 with e2 _
    subst e2
    have hst := q08 w1 ⟨gm, k, none⟩ (.int .i64 u)
    refine q14 (w' := w1.setCell ⟨gm, k, none⟩ (.int .i64 u)) rfl ?_ ⟨q15 rfl (hB.setCell (by exact hgm) _) trivial hst.size trivial, fun _ => hz.did hst hs2⟩
    exact q13 rfl (by kernel_rfl) (by kernel_rfl) (q34 hc2 hf2 (by kernel_rfl))
   intro done vals w12 b12 _ hall hZ hr
   have hz : RTz wq N0 gm (.slice (some ⟨gm, 0, none⟩) mem.length Mc) mem (mem.set k u) (done 10) w12 := hZ
   rw [hall 10 (by simp)] at hz
   clear hr
   simp only [fillT, Tell.is, Act.put, List.setIfInBounds_toArray, List.set_cons_zero, List.set_cons_succ]
   have hg := hz.g
   have hom := hz.x
   rw [if_pos rfl] at hom
   have os : OwnI w12 N0 (.slice sS.A sS.n sS.c) stack := World.ownsRow.kept OS.out hg (.inr (AP.out gm rfl))
   have WB := Kept.mk (WB.out.trans (b12.mono (show w.heap.size ≤ N0 by omega)))
   have RC := Kept.mk (HC.out.past WB.out)
   have K2 := Kept.mk ((b12.block _ (by omega)).trans K2.out)
   have K3 := Kept.mk ((b12.block _ (by omega)).trans K3.out)
   have K4 := Kept.mk ((b12.block _ (by omega)).trans K4.out)
   have K7 := Kept.mk ((b12.block _ (by omega)).trans K7.out)
   have X8 := Kept.mk ((b12.block T (by omega)).trans X8.out)
   have RT : Kept (StAll w12 ⟨r0, r1, r2, r3, ⟨some ⟨gm, 0, none⟩, mem.length, Mc⟩, sS, pc + 1⟩ ⟨r0, r1, r2, r3, mem.set k u, stack, pc + 1⟩) := ⟨⟨⟨rfl, rfl, rfl, rfl, OwnI.is (s := ⟨some ⟨gm, 0, none⟩, mem.length, Mc⟩) hom, OwnI.is os, rfl⟩, Tag.of_own hom, Tag.of_own os⟩⟩
   clear hz hom os hg b12 HIX HSX HTX
   go_upto_region 23 with (fail)
   have ba := q00 w12 (.cells #[.int .i64 2, .int .i64 ((k : Int))] 124)
   have K4a := Kept.mk (q01 K4.out ba)
   have Ka := Kept.mk (q01 X8.out ba)
   have WBa := Kept.mk (WB.out.trans (ba.mono WB.out.size))
   have STa := Kept.mk (RT.out.past ba)
   have Y4 := fun j => cell_of_row (w12.alloc (.cells #[.int .i64 2, .int .i64 ((k : Int))] 124)) (w.heap.size + 1 + 1) j _ _ _ K4a.out
   have F4 := fun j => frozen_of_row (w12.alloc (.cells #[.int .i64 2, .int .i64 ((k : Int))] 124)) (w.heap.size + 1 + 1) j _ _ K4a.out
   clear ba
   have YB := fun j => cell_of_row w12 (T) j _ _ _ X8.out
   simp only [Stt.cs, Sl.none] at YB Y4
   go_wp2_with fail
   have h := q38 (w := w) (old := ⟨0, 0, 0, 0, Sl.none, Sl.none, 0⟩) (e := ⟨r0, r1, r2, r3, ⟨some ⟨gm, 0, none⟩, mem.length, Mc⟩, sS, pc + 1⟩) K4a.out WBa.out (show w.heap.size ≤ w.heap.size + 1 + 1 by omega) STa.out
   dsimp only at h
   obtain ⟨x4, st, wb⟩ := h
   refine q0C _ [Stt.v ⟨r0, r1, r2, r3, ⟨some ⟨gm, 0, none⟩, mem.length, Mc⟩, sS, pc + 1⟩, .slice (some ⟨w12.heap.size, 0, none⟩) 1 1, .int .i64 0] Try.results39 (.cons (.cell (cs := Stt.cs ⟨r0, r1, r2, r3, ⟨some ⟨gm, 0, none⟩, mem.length, Mc⟩, sS, pc + 1⟩) (b := w.heap.size + 1 + 1) (off := 0) rfl rfl (q05 x4) Try.underlying36 rfl (by kernel_rfl)) (.cons (.tmp rfl) (.cons (.tmp rfl) .nil))) rfl ?_
   rw [← HF.out]
   exact ⟨⟨r0, r1, r2, r3, ⟨some ⟨gm, 0, none⟩, mem.length, Mc⟩, sS, pc + 1⟩, _, rfl, st, wb⟩
 by_cases hk5 : kind = 5
 ·subst hk5
  have hF := HFO.out
  rw [if_neg (show ¬ (5 : Int) = 1 by decide), if_neg (show ¬ (5 : Int) = 4 by decide), if_neg (show ¬ (5 : Int) = 2 by decide), if_neg (show ¬ (5 : Int) = 3 by decide), if_pos rfl] at hF
  have HD5 := Kept.mk (fun w1 => HDO.out a b w1 (.inr rfl))
  generalize doW p.W op a b = V at *
  have HF0 := Kept.mk hF
  clear hF HFO HDO
  go_wp2_with fail
  refine (HD5.out _).mono ?_
  rintro en w11 ⟨rfl, rfl⟩
  clear HD5
  by_cases hv : V = 0
  ·subst hv
   have hF := HF0.out
   rw [if_neg (fun q => q rfl)] at hF
   have HF := Kept.mk hF
   clear hF HF0
   go_upto_region 28 with (fail)
   have hTq : T < wq.heap.size := (Array.getElem?_eq_some_iff.1 X8.out).1
   obtain ⟨B4, hB4⟩ : ∃ B, B = w.heap.size + 1 + 1 := ⟨_, rfl⟩
   have hb4w : w.heap.size ≤ B4 := by omega
   have hb4T : B4 < T := by omega
   rw [← hB4] at K4 ⊢
   clear hB4
   refine q19 (fun done vals w => BTz wq B4 36 (Stt.cs ⟨0, 0, 0, 0, Sl.none, Sl.none, 0⟩) (Stt.cs ⟨r0, r1, r2, r3, sM, sS, pc + 1⟩) (done 5) w) (B4) (G := fun _ => True) (ts := [
     .is (Stt.v ⟨r0, r1, r2, r3, sM, sS, pc + 1⟩),
     .is (Value.pointer (some ⟨T, 6, none⟩)),
     .is (Value.int .i64 (pc + 1)),
     .is (Value.agg #[.int .i64 (3), .int .i64 (pc + 1)]),
     .turns (fun v _ => True) (fun _ _ => True),
     .sets (fun _ _ => True),
     .gets (fun _ _ => True),
     .is (Value.int .i64 (0))])
    (fin := []) (cs := [(4, 5), (4, 6), (5, 4), (5, 6)]) ?z0 ?zg (by kernel_rfl) rfl (by kernel_rfl) (by kernel_rfl)
    ⟨trivial, trivial, trivial, trivial, q07 _, (fun _ _ _ _ _ => trivial), q07 _, trivial, trivial⟩ (fun _ _ _ _ => trivial) ?cs (by omega) trivial
    ⟨?_, ?_, ?_, ?_, ?_, ?_, ?_, ?_, trivial⟩ ?_
   case z0 =>
    show _
    exact BTz.start K4.out
   case zg =>
    intro i done vals w1 w2 v hti hni hZ hb
    have hz := hZ
    ·skip
     have hz : BTz wq B4 36 (Stt.cs ⟨0, 0, 0, 0, Sl.none, Sl.none, 0⟩) (Stt.cs ⟨r0, r1, r2, r3, sM, sS, pc + 1⟩) (done 5) w1 := hz
     have hs : ¬ 5 = i := by rintro rfl; cases hti
     exact hz.step hs hb
   case cs =>
    intro p hp v w1 w2 hG hR hE
    simp only [List.mem_cons, List.not_mem_nil, or_false] at hp
    rcases hp with rfl | rfl | rfl | rfl
    ·exact hR
    ·exact hR
    ·exact hR
    ·exact hR
   ·intro done vals w1 hB _ hZ hni hcl hdn _
    have hz : BTz wq B4 36 (Stt.cs ⟨0, 0, 0, 0, Sl.none, Sl.none, 0⟩) (Stt.cs ⟨r0, r1, r2, r3, sM, sS, pc + 1⟩) (done 5) w1 := hZ
    have hxT := CellsAt.of_block ((hz.g.block T hTq (by intro e; injection e with e; omega)).trans X8.out)
    refine q02 rfl ?_ ⟨q04 rfl, noturn rfl⟩
    exact q09 rfl (b := T) (off := 0) (by kernel_rfl) (Stt.cs ⟨r0, r1, r2, r3, sM, sS, pc + 1⟩) hxT Try.underlying36 rfl (by kernel_rfl)
   ·intro done vals w1 hB _ hZ hni hcl hdn _
    refine q02 rfl ?_ ⟨q04 rfl, noturn rfl⟩
    kernel_rfl
   ·intro done vals w1 hB _ hZ hni hcl hdn _
    have hz : BTz wq B4 36 (Stt.cs ⟨0, 0, 0, 0, Sl.none, Sl.none, 0⟩) (Stt.cs ⟨r0, r1, r2, r3, sM, sS, pc + 1⟩) (done 5) w1 := hZ
    have hxT := CellsAt.of_block ((hz.g.block T hTq (by intro e; injection e with e; omega)).trans X8.out)
    refine q02 rfl ?_ ⟨q04 rfl, noturn rfl⟩
    exact q0A rfl (by kernel_rfl) (hxT 6 _ rfl) Try.underlying3 rfl
   ·intro done vals w1 hB _ hZ hni hcl hdn _
    refine q02 rfl ?_ ⟨q04 rfl, noturn rfl⟩
    kernel_rfl
   ·intro done vals w1 hB _ hZ hni hcl hdn _
    have hz : BTz wq B4 36 (Stt.cs ⟨0, 0, 0, 0, Sl.none, Sl.none, 0⟩) (Stt.cs ⟨r0, r1, r2, r3, sM, sS, pc + 1⟩) (done 5) w1 := hZ
    refine q1D (v := .slice (some ⟨w1.heap.size, 0, none⟩) 1 1) (w' := w1.alloc (.cells #[.int .i64 3, .int .i64 (pc + 1)] 124)) rfl (by kernel_rfl) ⟨q16 rfl trivial (hB.trans ((q00 _ _).mono (by have := hB.size; omega))) trivial (by simp) trivial, fun _ => ?_⟩
    exact hz.step (by decide) (q00 _ _)
   ·intro done vals w1 hB _ hZ hni hcl hdn _
    have hz : BTz wq B4 36 (Stt.cs ⟨0, 0, 0, 0, Sl.none, Sl.none, 0⟩) (Stt.cs ⟨r0, r1, r2, r3, sM, sS, pc + 1⟩) (done 5) w1 := hZ
    have hx := hz.x
    rw [hni, if_neg (by decide)] at hx
    obtain ⟨w2, hr2, hw2, hg2⟩ := q1B (P := Try.prog) (ty := 36) (Stt.v ⟨r0, r1, r2, r3, sM, sS, pc + 1⟩) (Stt.cs ⟨r0, r1, r2, r3, sM, sS, pc + 1⟩) rfl hx rfl rfl (by kernel_rfl)
    refine q14 (w' := w2) rfl ?_ ⟨q15 rfl (hB.grown hg2 (by have := hB.size; omega) (fun k hk => by injection hk with hk; omega)) trivial hg2.size trivial, fun _ => hz.did hg2 hw2⟩
    exact q13 rfl (by kernel_rfl) (by kernel_rfl) hr2
   ·intro done vals w1 hB _ hZ hni hcl hdn _
    exact q02 (v := vals 4) rfl (by kernel_rfl) ⟨q0B rfl trivial, noturn rfl⟩
   ·intro done vals w1 hB _ hZ hni hcl hdn _
    refine q02 rfl ?_ ⟨q04 rfl, noturn rfl⟩
    kernel_rfl
   intro done vals w13 b13 _ hall hZ hr
   have hz : BTz wq B4 36 (Stt.cs ⟨0, 0, 0, 0, Sl.none, Sl.none, 0⟩) (Stt.cs ⟨r0, r1, r2, r3, sM, sS, pc + 1⟩) (done 5) w13 := hZ
   rw [hall 5 (by simp)] at hz
   clear hr
   simp only [fillT, Tell.is, Tell.gets, Tell.turns, Act.put, List.setIfInBounds_toArray, List.set_cons_zero, List.set_cons_succ]
   have hx4 := hz.x
   rw [if_pos rfl] at hx4
   have st := RT.out.row ⟨⟨_, K4.out⟩, hz.g⟩ (by decide)
   have wb := WB.out.trans (b13.mono hb4w)
   go_wp2_with fail
   refine q0C _ [Stt.v ⟨r0, r1, r2, r3, sM, sS, pc + 1⟩, _, .int .i64 0] Try.results39 (.cons (.cell (cs := Stt.cs ⟨r0, r1, r2, r3, sM, sS, pc + 1⟩) (b := B4) (off := 0) rfl rfl (q05 hx4) Try.underlying36 rfl (by kernel_rfl)) (.cons (.tmp rfl) (.cons (.tmp rfl) .nil))) rfl ?_
   rw [← HF.out]
   exact ⟨⟨r0, r1, r2, r3, sM, sS, pc + 1⟩, _, rfl, st, wb⟩
  ·have kv : (V != 0) = true := by simpa using hv
   have hF := HF0.out
   rw [if_pos hv] at hF
   have HF := Kept.mk hF
   clear hF HF0 hv
   go_upto_region 28 with (fail)
   have RT : Kept (StAll (wq.setCell ⟨T, 6, none⟩ (.int .i64 (target))) ⟨r0, r1, r2, r3, sM, sS, target⟩ ⟨r0, r1, r2, r3, mem, stack, target⟩) := ⟨(RT.out.row (q0F (j := 6) X8.out (.int .i64 (target))) (by decide)).with r0 r1 r2 r3 (target)⟩
   have RC := Kept.mk (RC.out.row (q0F (j := 6) X8.out (.int .i64 (target))) (by decide))
   have WB := Kept.mk (WB.out.setCell (p := ⟨T, 6, none⟩) (show w.heap.size ≤ T by omega) (.int .i64 (target)))
   have K2 := Kept.mk (q03 (p := ⟨T, 6, none⟩) (u := .int .i64 (target)) K2.out hT2)
   have K3 := Kept.mk (q03 (p := ⟨T, 6, none⟩) (u := .int .i64 (target)) K3.out hT3)
   have K4 := Kept.mk (q03 (p := ⟨T, 6, none⟩) (u := .int .i64 (target)) K4.out hT4)
   have K7 := Kept.mk (q03 (p := ⟨T, 6, none⟩) (u := .int .i64 (target)) K7.out hT7)
   have X8 : Kept ((wq.setCell ⟨T, 6, none⟩ (.int .i64 (target))).heap[T]? = some (.cells (Stt.cs ⟨r0, r1, r2, r3, sM, sS, target⟩).toArray 36 (0, 0))) := ⟨heap_setCell_same wq T 6 _ _ (.int .i64 (target)) X8.out⟩
   clear Y2 Y3 Y7 Y8 F8
   generalize (wq.setCell ⟨T, 6, none⟩ (.int .i64 (target))) = wr at *
   have hTq : T < wr.heap.size := (Array.getElem?_eq_some_iff.1 X8.out).1
   obtain ⟨B4, hB4⟩ : ∃ B, B = w.heap.size + 1 + 1 := ⟨_, rfl⟩
   have hb4w : w.heap.size ≤ B4 := by omega
   have hb4T : B4 < T := by omega
   rw [← hB4] at K4 ⊢
   clear hB4
   refine q19 (fun done vals w => BTz wr B4 36 (Stt.cs ⟨0, 0, 0, 0, Sl.none, Sl.none, 0⟩) (Stt.cs ⟨r0, r1, r2, r3, sM, sS, target⟩) (done 5) w) (B4) (G := fun _ => True) (ts := [
     .is (Stt.v ⟨r0, r1, r2, r3, sM, sS, target⟩),
     .is (Value.pointer (some ⟨T, 6, none⟩)),
     .is (Value.int .i64 (target)),
     .is (Value.agg #[.int .i64 (3), .int .i64 (target)]),
     .turns (fun v _ => True) (fun _ _ => True),
     .sets (fun _ _ => True),
     .gets (fun _ _ => True),
     .is (Value.int .i64 (0))])
    (fin := []) (cs := [(4, 5), (4, 6), (5, 4), (5, 6)]) ?z0 ?zg (by kernel_rfl) rfl (by kernel_rfl) (by kernel_rfl)
    ⟨trivial, trivial, trivial, trivial, q07 _, (fun _ _ _ _ _ => trivial), q07 _, trivial, trivial⟩ (fun _ _ _ _ => trivial) ?cs (by omega) trivial
    ⟨?_, ?_, ?_, ?_, ?_, ?_, ?_, ?_, trivial⟩ ?_
   case z0 =>
    show _
    exact BTz.start K4.out
   case zg =>
    intro i done vals w1 w2 v hti hni hZ hb
    have hz := hZ
    ·skip
     have hz : BTz wr B4 36 (Stt.cs ⟨0, 0, 0, 0, Sl.none, Sl.none, 0⟩) (Stt.cs ⟨r0, r1, r2, r3, sM, sS, target⟩) (done 5) w1 := hz
     have hs : ¬ 5 = i := by rintro rfl; cases hti
     exact hz.step hs hb
   case cs =>
    intro p hp v w1 w2 hG hR hE
    simp only [List.mem_cons, List.not_mem_nil, or_false] at hp
    rcases hp with rfl | rfl | rfl | rfl
    ·exact hR
    ·exact hR
    ·exact hR
    ·exact hR
   ·intro done vals w1 hB _ hZ hni hcl hdn _
    have hz : BTz wr B4 36 (Stt.cs ⟨0, 0, 0, 0, Sl.none, Sl.none, 0⟩) (Stt.cs ⟨r0, r1, r2, r3, sM, sS, target⟩) (done 5) w1 := hZ
    have hxT := CellsAt.of_block ((hz.g.block T hTq (by intro e; injection e with e; omega)).trans X8.out)
    refine q02 rfl ?_ ⟨q04 rfl, noturn rfl⟩
    exact q09 rfl (b := T) (off := 0) (by kernel_rfl) (Stt.cs ⟨r0, r1, r2, r3, sM, sS, target⟩) hxT Try.underlying36 rfl (by kernel_rfl)
   ·intro done vals w1 hB _ hZ hni hcl hdn _
    refine q02 rfl ?_ ⟨q04 rfl, noturn rfl⟩
    kernel_rfl
   ·intro done vals w1 hB _ hZ hni hcl hdn _
    have hz : BTz wr B4 36 (Stt.cs ⟨0, 0, 0, 0, Sl.none, Sl.none, 0⟩) (Stt.cs ⟨r0, r1, r2, r3, sM, sS, target⟩) (done 5) w1 := hZ
    have hxT := CellsAt.of_block ((hz.g.block T hTq (by intro e; injection e with e; omega)).trans X8.out)
    refine q02 rfl ?_ ⟨q04 rfl, noturn rfl⟩
    exact q0A rfl (by kernel_rfl) (hxT 6 _ rfl) Try.underlying3 rfl
   ·intro done vals w1 hB _ hZ hni hcl hdn _
    refine q02 rfl ?_ ⟨q04 rfl, noturn rfl⟩
    kernel_rfl
   ·intro done vals w1 hB _ hZ hni hcl hdn _
    have hz : BTz wr B4 36 (Stt.cs ⟨0, 0, 0, 0, Sl.none, Sl.none, 0⟩) (Stt.cs ⟨r0, r1, r2, r3, sM, sS, target⟩) (done 5) w1 := hZ
    refine q1D (v := .slice (some ⟨w1.heap.size, 0, none⟩) 1 1) (w' := w1.alloc (.cells #[.int .i64 3, .int .i64 (target)] 124)) rfl (by kernel_rfl) ⟨q16 rfl trivial (hB.trans ((q00 _ _).mono (by have := hB.size; omega))) trivial (by simp) trivial, fun _ => ?_⟩
    exact hz.step (by decide) (q00 _ _)
   ·intro done vals w1 hB _ hZ hni hcl hdn _
    have hz : BTz wr B4 36 (Stt.cs ⟨0, 0, 0, 0, Sl.none, Sl.none, 0⟩) (Stt.cs ⟨r0, r1, r2, r3, sM, sS, target⟩) (done 5) w1 := hZ
    have hx := hz.x
    rw [hni, if_neg (by decide)] at hx
    obtain ⟨w2, hr2, hw2, hg2⟩ := q1B (P := Try.prog) (ty := 36) (Stt.v ⟨r0, r1, r2, r3, sM, sS, target⟩) (Stt.cs ⟨r0, r1, r2, r3, sM, sS, target⟩) rfl hx rfl rfl (by kernel_rfl)
    refine q14 (w' := w2) rfl ?_ ⟨q15 rfl (hB.grown hg2 (by have := hB.size; omega) (fun k hk => by injection hk with hk; omega)) trivial hg2.size trivial, fun _ => hz.did hg2 hw2⟩
    exact q13 rfl (by kernel_rfl) (by kernel_rfl) hr2
   ·intro done vals w1 hB _ hZ hni hcl hdn _
    exact q02 (v := vals 4) rfl (by kernel_rfl) ⟨q0B rfl trivial, noturn rfl⟩
   ·intro done vals w1 hB _ hZ hni hcl hdn _
    refine q02 rfl ?_ ⟨q04 rfl, noturn rfl⟩
    kernel_rfl
   intro done vals w13 b13 _ hall hZ hr
   have hz : BTz wr B4 36 (Stt.cs ⟨0, 0, 0, 0, Sl.none, Sl.none, 0⟩) (Stt.cs ⟨r0, r1, r2, r3, sM, sS, target⟩) (done 5) w13 := hZ
   rw [hall 5 (by simp)] at hz
   clear hr
   simp only [fillT, Tell.is, Tell.gets, Tell.turns, Act.put, List.setIfInBounds_toArray, List.set_cons_zero, List.set_cons_succ]
   have hx4 := hz.x
   rw [if_pos rfl] at hx4
   have st := RT.out.row ⟨⟨_, K4.out⟩, hz.g⟩ (by decide)
   have wb := WB.out.trans (b13.mono hb4w)
   go_wp2_with fail
   refine q0C _ [Stt.v ⟨r0, r1, r2, r3, sM, sS, target⟩, _, .int .i64 0] Try.results39 (.cons (.cell (cs := Stt.cs ⟨r0, r1, r2, r3, sM, sS, target⟩) (b := B4) (off := 0) rfl rfl (q05 hx4) Try.underlying36 rfl (by kernel_rfl)) (.cons (.tmp rfl) (.cons (.tmp rfl) .nil))) rfl ?_
   rw [← HF.out]
   exact ⟨⟨r0, r1, r2, r3, sM, sS, target⟩, _, rfl, st, wb⟩
 by_cases hk6 : kind = 6
 ·subst hk6
  have hF := HFO.out
  rw [if_neg (show ¬ (6 : Int) = 1 by decide), if_neg (show ¬ (6 : Int) = 4 by decide), if_neg (show ¬ (6 : Int) = 2 by decide), if_neg (show ¬ (6 : Int) = 3 by decide), if_neg (show ¬ (6 : Int) = 5 by decide), if_pos rfl] at hF
  have HF := Kept.mk hF
  clear hF HFO
  go_upto_region 48 with (fail)
  have RT : Kept (StAll (wq.setCell ⟨T, 6, none⟩ (.int .i64 (target))) ⟨r0, r1, r2, r3, sM, sS, target⟩ ⟨r0, r1, r2, r3, mem, stack, target⟩) := ⟨(RT.out.row (q0F (j := 6) X8.out (.int .i64 (target))) (by decide)).with r0 r1 r2 r3 (target)⟩
  have RC := Kept.mk (RC.out.row (q0F (j := 6) X8.out (.int .i64 (target))) (by decide))
  have WB := Kept.mk (WB.out.setCell (p := ⟨T, 6, none⟩) (show w.heap.size ≤ T by omega) (.int .i64 (target)))
  have K2 := Kept.mk (q03 (p := ⟨T, 6, none⟩) (u := .int .i64 (target)) K2.out hT2)
  have K3 := Kept.mk (q03 (p := ⟨T, 6, none⟩) (u := .int .i64 (target)) K3.out hT3)
  have K4 := Kept.mk (q03 (p := ⟨T, 6, none⟩) (u := .int .i64 (target)) K4.out hT4)
  have K7 := Kept.mk (q03 (p := ⟨T, 6, none⟩) (u := .int .i64 (target)) K7.out hT7)
  have X8 : Kept ((wq.setCell ⟨T, 6, none⟩ (.int .i64 (target))).heap[T]? = some (.cells (Stt.cs ⟨r0, r1, r2, r3, sM, sS, target⟩).toArray 36 (0, 0))) := ⟨heap_setCell_same wq T 6 _ _ (.int .i64 (target)) X8.out⟩
  clear Y2 Y3 Y7 Y8 F8
  generalize (wq.setCell ⟨T, 6, none⟩ (.int .i64 (target))) = wr at *
  have YB := fun j => cell_of_row wr (T) j _ _ _ X8.out
  have Y4 := fun j => cell_of_row wr (w.heap.size + 1 + 1) j _ _ _ K4.out
  have F4 := fun j => frozen_of_row wr (w.heap.size + 1 + 1) j _ _ K4.out
  simp only [Stt.cs, Sl.none] at YB Y4
  go_wp2_with fail
  have h := q38 (w := w) (old := ⟨0, 0, 0, 0, Sl.none, Sl.none, 0⟩) (e := ⟨r0, r1, r2, r3, sM, sS, target⟩) K4.out WB.out (show w.heap.size ≤ w.heap.size + 1 + 1 by omega) RT.out
  dsimp only at h
  obtain ⟨x4, st, wb⟩ := h
  refine q0C _ [Stt.v ⟨r0, r1, r2, r3, sM, sS, target⟩, .slice none 0 0, .int .i64 0] Try.results39 (.cons (.cell (cs := Stt.cs ⟨r0, r1, r2, r3, sM, sS, target⟩) (b := w.heap.size + 1 + 1) (off := 0) rfl rfl (q05 x4) Try.underlying36 rfl (by kernel_rfl)) (.cons (.tmp rfl) (.cons (.tmp rfl) .nil))) rfl ?_
  rw [← HF.out]
  exact ⟨⟨r0, r1, r2, r3, sM, sS, target⟩, _, rfl, st, wb⟩
 by_cases hk7 : kind = 7
 ·subst hk7
  have hF := HFO.out
  rw [if_neg (show ¬ (7 : Int) = 1 by decide), if_neg (show ¬ (7 : Int) = 4 by decide), if_neg (show ¬ (7 : Int) = 2 by decide), if_neg (show ¬ (7 : Int) = 3 by decide), if_neg (show ¬ (7 : Int) = 5 by decide), if_neg (show ¬ (7 : Int) = 6 by decide), if_pos rfl] at hF
  have HF := Kept.mk hF
  clear hF HFO
  go_wp2_with fail
  refine (HJ.out a _ PP.out).mono ?_
  rintro en w11 ⟨rfl, b11⟩
  have K2 := Kept.mk (q01 K2.out b11)
  have K3 := Kept.mk (q01 K3.out b11)
  have K4 := Kept.mk (q01 K4.out b11)
  have K7 := Kept.mk (q01 K7.out b11)
  have X8 := Kept.mk (q01 X8.out b11)
  have WB := Kept.mk (WB.out.trans (b11.mono WB.out.size))
  have RT := Kept.mk (RT.out.past b11)
  have RC := Kept.mk (RC.out.past b11)
  clear Y2 Y3 Y7 Y8 F8 b11
  have Y2 := fun j => cell_of_row w11 w.heap.size j _ _ _ K2.out
  have Y3 := fun j => cell_of_row w11 (w.heap.size + 1) j _ _ _ K3.out
  have Y7 := fun j => cell_of_row w11 G j _ _ _ K7.out
  have Y8 := fun j => cell_of_row w11 T j _ _ _ X8.out
  have F8 := fun j => frozen_of_row w11 T j _ _ X8.out
  simp only [Stt.cs] at Y8
  go_upto_region 33 with (fail)
  have RT : Kept (StAll (w11.setCell ⟨T, 6, none⟩ (.int .i64 (min a (il.length : Int)))) ⟨r0, r1, r2, r3, sM, sS, min a (il.length : Int)⟩ ⟨r0, r1, r2, r3, mem, stack, min a (il.length : Int)⟩) := ⟨(RT.out.row (q0F (j := 6) X8.out (.int .i64 (min a (il.length : Int)))) (by decide)).with r0 r1 r2 r3 (min a (il.length : Int))⟩
  have RC := Kept.mk (RC.out.row (q0F (j := 6) X8.out (.int .i64 (min a (il.length : Int)))) (by decide))
  have WB := Kept.mk (WB.out.setCell (p := ⟨T, 6, none⟩) (show w.heap.size ≤ T by omega) (.int .i64 (min a (il.length : Int))))
  have K2 := Kept.mk (q03 (p := ⟨T, 6, none⟩) (u := .int .i64 (min a (il.length : Int))) K2.out hT2)
  have K3 := Kept.mk (q03 (p := ⟨T, 6, none⟩) (u := .int .i64 (min a (il.length : Int))) K3.out hT3)
  have K4 := Kept.mk (q03 (p := ⟨T, 6, none⟩) (u := .int .i64 (min a (il.length : Int))) K4.out hT4)
  have K7 := Kept.mk (q03 (p := ⟨T, 6, none⟩) (u := .int .i64 (min a (il.length : Int))) K7.out hT7)
  have X8 : Kept ((w11.setCell ⟨T, 6, none⟩ (.int .i64 (min a (il.length : Int)))).heap[T]? = some (.cells (Stt.cs ⟨r0, r1, r2, r3, sM, sS, min a (il.length : Int)⟩).toArray 36 (0, 0))) := ⟨heap_setCell_same w11 T 6 _ _ (.int .i64 (min a (il.length : Int))) X8.out⟩
  clear Y2 Y3 Y7 Y8 F8
  generalize (w11.setCell ⟨T, 6, none⟩ (.int .i64 (min a (il.length : Int)))) = wr at *
  have hTq : T < wr.heap.size := (Array.getElem?_eq_some_iff.1 X8.out).1
  obtain ⟨B4, hB4⟩ : ∃ B, B = w.heap.size + 1 + 1 := ⟨_, rfl⟩
  have hb4w : w.heap.size ≤ B4 := by omega
  have hb4T : B4 < T := by omega
  rw [← hB4] at K4 ⊢
  clear hB4
  refine q19 (fun done vals w => BTz wr B4 36 (Stt.cs ⟨0, 0, 0, 0, Sl.none, Sl.none, 0⟩) (Stt.cs ⟨r0, r1, r2, r3, sM, sS, min a (il.length : Int)⟩) (done 5) w) (B4) (G := fun _ => True) (ts := [
    .is (Stt.v ⟨r0, r1, r2, r3, sM, sS, min a (il.length : Int)⟩),
    .is (Value.pointer (some ⟨T, 6, none⟩)),
    .is (Value.int .i64 (min a (il.length : Int))),
    .is (Value.agg #[.int .i64 (3), .int .i64 (min a (il.length : Int))]),
    .turns (fun v _ => True) (fun _ _ => True),
    .sets (fun _ _ => True),
    .gets (fun _ _ => True),
    .is (Value.int .i64 (0))])
   (fin := []) (cs := [(4, 5), (4, 6), (5, 4), (5, 6)]) ?z0 ?zg (by kernel_rfl) rfl (by kernel_rfl) (by kernel_rfl)
   ⟨trivial, trivial, trivial, trivial, q07 _, (fun _ _ _ _ _ => trivial), q07 _, trivial, trivial⟩ (fun _ _ _ _ => trivial) ?cs (by omega) trivial
   ⟨?_, ?_, ?_, ?_, ?_, ?_, ?_, ?_, trivial⟩ ?_
  case z0 =>
   show _
   exact BTz.start K4.out
  case zg =>
   intro i done vals w1 w2 v hti hni hZ hb
   have hz := hZ
   ·skip
    have hz : BTz wr B4 36 (Stt.cs ⟨0, 0, 0, 0, Sl.none, Sl.none, 0⟩) (Stt.cs ⟨r0, r1, r2, r3, sM, sS, min a (il.length : Int)⟩) (done 5) w1 := hz
    have hs : ¬ 5 = i := by rintro rfl; cases hti
    exact hz.step hs hb
  case cs =>
   intro p hp v w1 w2 hG hR hE
   simp only [List.mem_cons, List.not_mem_nil, or_false] at hp
   rcases hp with rfl | rfl | rfl | rfl
   ·exact hR
   ·exact hR
   ·exact hR
   ·exact hR
  ·intro done vals w1 hB _ hZ hni hcl hdn _
   have hz : BTz wr B4 36 (Stt.cs ⟨0, 0, 0, 0, Sl.none, Sl.none, 0⟩) (Stt.cs ⟨r0, r1, r2, r3, sM, sS, min a (il.length : Int)⟩) (done 5) w1 := hZ
   have hxT := CellsAt.of_block ((hz.g.block T hTq (by intro e; injection e with e; omega)).trans X8.out)
   refine q02 rfl ?_ ⟨q04 rfl, noturn rfl⟩
   exact q09 rfl (b := T) (off := 0) (by kernel_rfl) (Stt.cs ⟨r0, r1, r2, r3, sM, sS, min a (il.length : Int)⟩) hxT Try.underlying36 rfl (by kernel_rfl)
  ·intro done vals w1 hB _ hZ hni hcl hdn _
   refine q02 rfl ?_ ⟨q04 rfl, noturn rfl⟩
   kernel_rfl
  ·intro done vals w1 hB _ hZ hni hcl hdn _
   have hz : BTz wr B4 36 (Stt.cs ⟨0, 0, 0, 0, Sl.none, Sl.none, 0⟩) (Stt.cs ⟨r0, r1, r2, r3, sM, sS, min a (il.length : Int)⟩) (done 5) w1 := hZ
   have hxT := CellsAt.of_block ((hz.g.block T hTq (by intro e; injection e with e; omega)).trans X8.out)
   refine q02 rfl ?_ ⟨q04 rfl, noturn rfl⟩
   exact q0A rfl (by kernel_rfl) (hxT 6 _ rfl) Try.underlying3 rfl
  ·intro done vals w1 hB _ hZ hni hcl hdn _
   refine q02 rfl ?_ ⟨q04 rfl, noturn rfl⟩
   kernel_rfl
  ·intro done vals w1 hB _ hZ hni hcl hdn _
   have hz : BTz wr B4 36 (Stt.cs ⟨0, 0, 0, 0, Sl.none, Sl.none, 0⟩) (Stt.cs ⟨r0, r1, r2, r3, sM, sS, min a (il.length : Int)⟩) (done 5) w1 := hZ
   refine q1D (v := .slice (some ⟨w1.heap.size, 0, none⟩) 1 1) (w' := w1.alloc (.cells #[.int .i64 3, .int .i64 (min a (il.length : Int))] 124)) rfl (by kernel_rfl) ⟨q16 rfl trivial (hB.trans ((q00 _ _).mono (by have := hB.size; omega))) trivial (by simp) trivial, fun _ => ?_⟩
   exact hz.step (by decide) (q00 _ _)
  ·intro done vals w1 hB _ hZ hni hcl hdn _
   have hz : BTz wr B4 36 (Stt.cs ⟨0, 0, 0, 0, Sl.none, Sl.none, 0⟩) (Stt.cs ⟨r0, r1, r2, r3, sM, sS, min a (il.length : Int)⟩) (done 5) w1 := hZ
   have hx := hz.x
   rw [hni, if_neg (by decide)] at hx
   obtain ⟨w2, hr2, hw2, hg2⟩ := q1B (P := Try.prog) (ty := 36) (Stt.v ⟨r0, r1, r2, r3, sM, sS, min a (il.length : Int)⟩) (Stt.cs ⟨r0, r1, r2, r3, sM, sS, min a (il.length : Int)⟩) rfl hx rfl rfl (by kernel_rfl)
   refine q14 (w' := w2) rfl ?_ ⟨q15 rfl (hB.grown hg2 (by have := hB.size; omega) (fun k hk => by injection hk with hk; omega)) trivial hg2.size trivial, fun _ => hz.did hg2 hw2⟩
   exact q13 rfl (by kernel_rfl) (by kernel_rfl) hr2
  ·intro done vals w1 hB _ hZ hni hcl hdn _
   exact q02 (v := vals 4) rfl (by kernel_rfl) ⟨q0B rfl trivial, noturn rfl⟩
  ·intro done vals w1 hB _ hZ hni hcl hdn _
   refine q02 rfl ?_ ⟨q04 rfl, noturn rfl⟩
   kernel_rfl
  intro done vals w13 b13 _ hall hZ hr
  have hz : BTz wr B4 36 (Stt.cs ⟨0, 0, 0, 0, Sl.none, Sl.none, 0⟩) (Stt.cs ⟨r0, r1, r2, r3, sM, sS, min a (il.length : Int)⟩) (done 5) w13 := hZ
  rw [hall 5 (by simp)] at hz
  clear hr
  simp only [fillT, Tell.is, Tell.gets, Tell.turns, Act.put, List.setIfInBounds_toArray, List.set_cons_zero, List.set_cons_succ]
  have hx4 := hz.x
  rw [if_pos rfl] at hx4
  have st := RT.out.row ⟨⟨_, K4.out⟩, hz.g⟩ (by decide)
  have wb := WB.out.trans (b13.mono hb4w)
  go_wp2_with fail
  refine q0C _ [Stt.v ⟨r0, r1, r2, r3, sM, sS, min a (il.length : Int)⟩, _, .int .i64 0] Try.results39 (.cons (.cell (cs := Stt.cs ⟨r0, r1, r2, r3, sM, sS, min a (il.length : Int)⟩) (b := B4) (off := 0) rfl rfl (q05 hx4) Try.underlying36 rfl (by kernel_rfl)) (.cons (.tmp rfl) (.cons (.tmp rfl) .nil))) rfl ?_
  rw [← HF.out]
  exact ⟨⟨r0, r1, r2, r3, sM, sS, min a (il.length : Int)⟩, _, rfl, st, wb⟩
 by_cases hk8 : kind = 8
 ·subst hk8
  have hF := HFO.out
  rw [if_neg (show ¬ (8 : Int) = 1 by decide), if_neg (show ¬ (8 : Int) = 4 by decide), if_neg (show ¬ (8 : Int) = 2 by decide), if_neg (show ¬ (8 : Int) = 3 by decide), if_neg (show ¬ (8 : Int) = 5 by decide), if_neg (show ¬ (8 : Int) = 6 by decide), if_neg (show ¬ (8 : Int) = 7 by decide), if_pos rfl] at hF
  by_cases h4 : 4 ≤ stack.length
  ·rw [if_pos h4] at hF
   have hq : decide ((stack.length : Int) ≥ 4) = true := by simp; omega
   have HF := Kept.mk hF
   clear hF HFO h4
   clear Y2 Y3 Y8 F8
   have YB := fun j => cell_of_row wq (w.heap.size + 1) j _ _ _ K3.out
   have Y4 := fun j => cell_of_row wq (w.heap.size + 1 + 1) j _ _ _ K4.out
   have F4 := fun j => frozen_of_row wq (w.heap.size + 1 + 1) j _ _ K4.out
   simp only [Stt.cs, Sl.none] at YB Y4
   go_wp2_with fail
   have h := q38 (w := w) (old := ⟨0, 0, 0, 0, Sl.none, Sl.none, 0⟩) (e := (⟨r0, r1, r2, r3, ⟨mA, mem.length, mC⟩, ⟨sA, stack.length, sC⟩, pc⟩ : Stt)) K4.out WB.out (show w.heap.size ≤ w.heap.size + 1 + 1 by omega) RC.out
   dsimp only at h
   obtain ⟨x4, st, wb⟩ := h
   refine q0C _ [Stt.v (⟨r0, r1, r2, r3, ⟨mA, mem.length, mC⟩, ⟨sA, stack.length, sC⟩, pc⟩ : Stt), .slice none 0 0, .int .i64 2] Try.results39 (.cons (.cell (cs := Stt.cs (⟨r0, r1, r2, r3, ⟨mA, mem.length, mC⟩, ⟨sA, stack.length, sC⟩, pc⟩ : Stt)) (b := w.heap.size + 1 + 1) (off := 0) rfl rfl (q05 x4) Try.underlying36 rfl (by kernel_rfl)) (.cons (.tmp rfl) (.cons (.tmp rfl) .nil))) rfl ?_
   rw [← HF.out]
   exact ⟨(⟨r0, r1, r2, r3, ⟨mA, mem.length, mC⟩, ⟨sA, stack.length, sC⟩, pc⟩ : Stt), _, rfl, st, wb⟩
  ·rw [if_neg h4] at hF
   have hq : decide ((stack.length : Int) ≥ 4) = false := by simp; omega
   have HF := Kept.mk hF
   clear hF HFO h4
   obtain ⟨SA, Sn, Sc⟩ := sS
   have hsn : Sn = stack.length := OS.out.is.n
   subst hsn
   dsimp only at Y8 X8 AP OS RT
   have HLT := Kept.mk (fun k hk => (World.ownsRow.lt OS.out k hk).1)
   go_wp2_with (at_builtin; go_must (refine append_int _ rfl (.tmp 171) (.tmp 175) rfl N0 rfl (OS.out.past (q00 _ _)) _ (pc + 1) rfl (q06 (by simp)) ?c0 ?c1 ?_))
   case c0 => omega
   case c1 => simp; omega
   intro vn wn hn hg bn
   have hn : OwnI wn N0 vn (stack ++ [pc + 1]) := hn
   obtain ⟨An, cn, rfl, hcn, rn⟩ := hn.shape
   have hl : (stack ++ [pc + 1]).length = stack.length + 1 := by simp
   rw [hl] at hn hcn ⊢
   clear hl
   have bA := q00 wq (.cells #[.int .i64 (pc + 1)] 3)
   have K2 := Kept.mk ((bn.block _ (by omega)).trans (q01 K2.out bA))
   have K3 := Kept.mk ((bn.block _ (by omega)).trans (q01 K3.out bA))
   have K4 := Kept.mk ((bn.block _ (by omega)).trans (q01 K4.out bA))
   have K7 := Kept.mk ((bn.block _ (by omega)).trans (q01 K7.out bA))
   have X8 := Kept.mk ((bn.block T (by omega)).trans (q01 X8.out bA))
   have WB := Kept.mk ((WB.out.trans (bA.mono WB.out.size)).trans (bn.mono (show w.heap.size ≤ N0 by omega)))
   have om : OwnI wn N0 (.slice sM.A sM.n sM.c) mem := World.ownsRow.kept (OM.out.past bA) hg (by
    cases he : (Value.slice sM.A sM.n sM.c).ownBlock with
    | none => exact .inl rfl
    | some g => exact .inr (fun e => AP.out g he e.symm))
   have sz9 : wq.heap.size ≤ wn.heap.size := by have := bn.size; simp at this; omega
   have RC := Kept.mk (HC.out.past WB.out)
   have RT : Kept (StAll wn ⟨r0, r1, r2, r3, sM, ⟨An, stack.length + 1, cn⟩, pc + 1⟩ ⟨r0, r1, r2, r3, mem, stack ++ [pc + 1], pc + 1⟩) := ⟨⟨⟨rfl, rfl, rfl, rfl, om.is, OwnI.is (s := ⟨An, stack.length + 1, cn⟩) hn, rfl⟩, Tag.of_own om, Tag.of_own hn⟩⟩
   clear Y2 Y3 Y7 Y8 F8 bA hn hg bn om rn HLT
   have Y7 := fun j => cell_of_row wn G j _ _ _ K7.out
   have Y8 := fun j => cell_of_row wn T j _ _ _ X8.out
   have F8 := fun j => frozen_of_row wn T j _ _ X8.out
   simp only [Stt.cs] at Y8
   simp only [Inst.cs] at Y7
   go_upto_region 48 with (fail)
   have RT : Kept (StAll ((wn.setCell ⟨T, 5, none⟩ (.slice An (stack.length + 1) cn)).setCell ⟨T, 6, none⟩ (.int .i64 target)) ⟨r0, r1, r2, r3, sM, ⟨An, stack.length + 1, cn⟩, target⟩ ⟨r0, r1, r2, r3, mem, stack ++ [pc + 1], target⟩) := ⟨((RT.out.row (q0F (j := 5) X8.out (.slice An (stack.length + 1) cn)) (by decide)).row (q0F (j := 6) (heap_setCell_same wn T 5 _ _ (.slice An (stack.length + 1) cn) X8.out) (.int .i64 target)) (by decide)).with r0 r1 r2 r3 target⟩
   have WB := Kept.mk ((WB.out.setCell (p := ⟨T, 5, none⟩) (show w.heap.size ≤ T by omega) (.slice An (stack.length + 1) cn)).setCell (p := ⟨T, 6, none⟩) (show w.heap.size ≤ T by omega) (.int .i64 target))
   have K4 := Kept.mk (q03 (p := ⟨T, 6, none⟩) (u := .int .i64 target) (q03 (p := ⟨T, 5, none⟩) (u := .slice An (stack.length + 1) cn) K4.out hT4) hT4)
   have X8 : Kept (((wn.setCell ⟨T, 5, none⟩ (.slice An (stack.length + 1) cn)).setCell ⟨T, 6, none⟩ (.int .i64 target)).heap[T]? = some (.cells (Stt.cs ⟨r0, r1, r2, r3, sM, ⟨An, stack.length + 1, cn⟩, target⟩).toArray 36 (0, 0))) := ⟨heap_setCell_same _ T 6 _ _ (.int .i64 target) (heap_setCell_same wn T 5 _ _ (.slice An (stack.length + 1) cn) X8.out)⟩
   clear Y7 Y8 F8 K2 K3 K7 RC
   generalize (wn.setCell ⟨T, 5, none⟩ (.slice An (stack.length + 1) cn)).setCell ⟨T, 6, none⟩ (.int .i64 target) = wr at *
   have YB := fun j => cell_of_row wr (T) j _ _ _ X8.out
   have Y4 := fun j => cell_of_row wr (w.heap.size + 1 + 1) j _ _ _ K4.out
   have F4 := fun j => frozen_of_row wr (w.heap.size + 1 + 1) j _ _ K4.out
   simp only [Stt.cs, Sl.none] at YB Y4
   go_wp2_with fail
   have h := q38 (w := w) (old := ⟨0, 0, 0, 0, Sl.none, Sl.none, 0⟩) (e := ⟨r0, r1, r2, r3, sM, ⟨An, stack.length + 1, cn⟩, target⟩) K4.out WB.out (show w.heap.size ≤ w.heap.size + 1 + 1 by omega) RT.out
   dsimp only at h
   obtain ⟨x4, st, wb⟩ := h
   refine q0C _ [Stt.v ⟨r0, r1, r2, r3, sM, ⟨An, stack.length + 1, cn⟩, target⟩, .slice none 0 0, .int .i64 0] Try.results39 (.cons (.cell (cs := Stt.cs ⟨r0, r1, r2, r3, sM, ⟨An, stack.length + 1, cn⟩, target⟩) (b := w.heap.size + 1 + 1) (off := 0) rfl rfl (q05 x4) Try.underlying36 rfl (by kernel_rfl)) (.cons (.tmp rfl) (.cons (.tmp rfl) .nil))) rfl ?_
   rw [← HF.out]
   exact ⟨⟨r0, r1, r2, r3, sM, ⟨An, stack.length + 1, cn⟩, target⟩, _, rfl, st, wb⟩
 by_cases hk9 : kind = 9
 ·subst hk9
  have hF := HFO.out
  rw [if_neg (show ¬ (9 : Int) = 1 by decide), if_neg (show ¬ (9 : Int) = 4 by decide), if_neg (show ¬ (9 : Int) = 2 by decide), if_neg (show ¬ (9 : Int) = 3 by decide), if_neg (show ¬ (9 : Int) = 5 by decide), if_neg (show ¬ (9 : Int) = 6 by decide), if_neg (show ¬ (9 : Int) = 7 by decide), if_neg (show ¬ (9 : Int) = 8 by decide), if_pos rfl] at hF
  cases hg : stack.getLast? with
  | none =>
   rw [hg] at hF
   simp only at hF
   have hz : stack = [] := List.getLast?_eq_none_iff.1 hg
   have hq : ((stack.length : Int) == 0) = true := by rw [hz]; rfl
   have HF := Kept.mk hF
   clear hF HFO hz hg
   clear Y2 Y3 Y8 F8
   have YB := fun j => cell_of_row wq (w.heap.size + 1) j _ _ _ K3.out
   have Y4 := fun j => cell_of_row wq (w.heap.size + 1 + 1) j _ _ _ K4.out
   have F4 := fun j => frozen_of_row wq (w.heap.size + 1 + 1) j _ _ K4.out
   simp only [Stt.cs, Sl.none] at YB Y4
   go_wp2_with fail
   have h := q38 (w := w) (old := ⟨0, 0, 0, 0, Sl.none, Sl.none, 0⟩) (e := (⟨r0, r1, r2, r3, ⟨mA, mem.length, mC⟩, ⟨sA, stack.length, sC⟩, pc⟩ : Stt)) K4.out WB.out (show w.heap.size ≤ w.heap.size + 1 + 1 by omega) RC.out
   dsimp only at h
   obtain ⟨x4, st, wb⟩ := h
   refine q0C _ [Stt.v (⟨r0, r1, r2, r3, ⟨mA, mem.length, mC⟩, ⟨sA, stack.length, sC⟩, pc⟩ : Stt), .slice none 0 0, .int .i64 2] Try.results39 (.cons (.cell (cs := Stt.cs (⟨r0, r1, r2, r3, ⟨mA, mem.length, mC⟩, ⟨sA, stack.length, sC⟩, pc⟩ : Stt)) (b := w.heap.size + 1 + 1) (off := 0) rfl rfl (q05 x4) Try.underlying36 rfl (by kernel_rfl)) (.cons (.tmp rfl) (.cons (.tmp rfl) .nil))) rfl ?_
   rw [← HF.out]
   exact ⟨(⟨r0, r1, r2, r3, ⟨mA, mem.length, mC⟩, ⟨sA, stack.length, sC⟩, pc⟩ : Stt), _, rfl, st, wb⟩
  | some lst =>
   rw [hg] at hF
   simp only at hF
   clear HFO
   obtain ⟨j, hj, hlst⟩ : ∃ j : Nat, stack.length = j + 1 ∧ stack[j]? = some lst := by
    rcases list_end stack with rfl | ⟨r, x, rfl⟩
    ·cases hg
    ·rw [List.getLast?_concat] at hg
     injection hg with hg
     subst hg
     exact ⟨r.length, by simp, by simp⟩
   have hjl : j < stack.length := by omega
   have hel : stack[j] = lst := by rw [List.getElem?_eq_getElem hjl] at hlst; injection hlst
   have hdl : stack.dropLast = stack.take j := by rw [List.dropLast_eq_take]; congr 1; omega
   rw [hdl] at hF
   have hq : ((stack.length : Int) == 0) = false := beq_eq_false_iff_ne.2 (by omega)
   have wl : IntKind.i64.wrap ((stack.length : Int) - 1) = (j : Int) := by rw [IntWalk.i64_in _ (by omega)]; omega
   have hji : (j : Int) < (stack.length : Int) := by omega
   obtain ⟨sb, so, e0, hsb, hsc⟩ := RC.out.st.stack.r.at_ hjl
   have e0 : sA = some ⟨sb, so, none⟩ := e0
   subst e0
   rw [hel] at hsc
   have hnT : T ≠ sb := by have := HC.out.st.stack.r.at_ hjl; obtain ⟨b2, o2, e, hb2, -⟩ := this; have e : some (Addr.mk sb so none) = some ⟨b2, o2, none⟩ := e; injection e with e; injection e with e _; omega
   obtain ⟨SA, Sn, Sc⟩ := sS
   have hsn : Sn = stack.length := OS.out.is.n
   subst hsn
   dsimp only at Y8 X8 AP OS RT
   have hcut := fun w => cut_int_run SA stack.length Sc j (by omega) (OwnI.is (s := ⟨SA, stack.length, Sc⟩) OS.out).c w
   have ot : OwnI wq N0 (.slice SA j Sc) (stack.take j) := OwnI.take OS.out rfl (by omega)
   have htl : (stack.take j).length = j := by rw [List.length_take]; omega
   have RT : Kept (StAll wq ⟨r0, r1, r2, r3, sM, ⟨SA, j, Sc⟩, pc + 1⟩ ⟨r0, r1, r2, r3, mem, stack.take j, pc + 1⟩) := ⟨⟨⟨rfl, rfl, rfl, rfl, RT.out.st.mem, OwnI.is (s := ⟨SA, j, Sc⟩) ot, rfl⟩, RT.out.tm, Tag.of_own ot⟩⟩
   have HF := Kept.mk hF
   clear hF hdl hel hlst hj ot htl hjl
   go_upto_region 44 with (fail)
   have RT : Kept (StAll ((wq.setCell ⟨T, 6, none⟩ (.int .i64 lst)).setCell ⟨T, 5, none⟩ (.slice SA j Sc)) ⟨r0, r1, r2, r3, sM, ⟨SA, j, Sc⟩, lst⟩ ⟨r0, r1, r2, r3, mem, stack.take j, lst⟩) := ⟨((RT.out.row (q0F (j := 6) X8.out (.int .i64 lst)) (by decide)).row (q0F (j := 5) (heap_setCell_same wq T 6 _ _ (.int .i64 lst) X8.out) (.slice SA j Sc)) (by decide)).with r0 r1 r2 r3 lst⟩
   have WB := Kept.mk ((WB.out.setCell (p := ⟨T, 6, none⟩) (show w.heap.size ≤ T by omega) (.int .i64 lst)).setCell (p := ⟨T, 5, none⟩) (show w.heap.size ≤ T by omega) (.slice SA j Sc))
   have K4 := Kept.mk (q03 (p := ⟨T, 5, none⟩) (u := .slice SA j Sc) (q03 (p := ⟨T, 6, none⟩) (u := .int .i64 lst) K4.out hT4) hT4)
   have X8 : Kept (((wq.setCell ⟨T, 6, none⟩ (.int .i64 lst)).setCell ⟨T, 5, none⟩ (.slice SA j Sc)).heap[T]? = some (.cells (Stt.cs ⟨r0, r1, r2, r3, sM, ⟨SA, j, Sc⟩, lst⟩).toArray 36 (0, 0))) := ⟨heap_setCell_same _ T 5 _ _ (.slice SA j Sc) (heap_setCell_same wq T 6 _ _ (.int .i64 lst) X8.out)⟩
   clear Y2 Y3 Y7 Y8 F8 K2 K3 K7 RC hsc
   generalize (wq.setCell ⟨T, 6, none⟩ (.int .i64 lst)).setCell ⟨T, 5, none⟩ (.slice SA j Sc) = wr at *
   have hTq : T < wr.heap.size := (Array.getElem?_eq_some_iff.1 X8.out).1
   obtain ⟨B4, hB4⟩ : ∃ B, B = w.heap.size + 1 + 1 := ⟨_, rfl⟩
   have hb4w : w.heap.size ≤ B4 := by omega
   have hb4T : B4 < T := by omega
   rw [← hB4] at K4 ⊢
   clear hB4
   refine q19 (fun done vals w => BTz wr B4 36 (Stt.cs ⟨0, 0, 0, 0, Sl.none, Sl.none, 0⟩) (Stt.cs ⟨r0, r1, r2, r3, sM, ⟨SA, j, Sc⟩, lst⟩) (done 5) w) (B4) (G := fun _ => True) (ts := [
     .is (Stt.v ⟨r0, r1, r2, r3, sM, ⟨SA, j, Sc⟩, lst⟩),
     .is (Value.pointer (some ⟨T, 6, none⟩)),
     .is (Value.int .i64 (lst)),
     .is (Value.agg #[.int .i64 (3), .int .i64 (lst)]),
     .turns (fun v _ => True) (fun _ _ => True),
     .sets (fun _ _ => True),
     .gets (fun _ _ => True),
     .is (Value.int .i64 (0))])
    (fin := []) (cs := [(4, 5), (4, 6), (5, 4), (5, 6)]) ?z0 ?zg (by kernel_rfl) rfl (by kernel_rfl) (by kernel_rfl)
    ⟨trivial, trivial, trivial, trivial, q07 _, (fun _ _ _ _ _ => trivial), q07 _, trivial, trivial⟩ (fun _ _ _ _ => trivial) ?cs (by omega) trivial
    ⟨?_, ?_, ?_, ?_, ?_, ?_, ?_, ?_, trivial⟩ ?_
   case z0 =>
    show _
    exact BTz.start K4.out
   case zg =>
    intro i done vals w1 w2 v hti hni hZ hb
    have hz := hZ
    ·skip
     have hz : BTz wr B4 36 (Stt.cs ⟨0, 0, 0, 0, Sl.none, Sl.none, 0⟩) (Stt.cs ⟨r0, r1, r2, r3, sM, ⟨SA, j, Sc⟩, lst⟩) (done 5) w1 := hz
     have hs : ¬ 5 = i := by rintro rfl; cases hti
     exact hz.step hs hb
   case cs =>
    intro p hp v w1 w2 hG hR hE
    simp only [List.mem_cons, List.not_mem_nil, or_false] at hp
    rcases hp with rfl | rfl | rfl | rfl
    ·exact hR
    ·exact hR
    ·exact hR
    ·exact hR
   ·intro done vals w1 hB _ hZ hni hcl hdn _
    have hz : BTz wr B4 36 (Stt.cs ⟨0, 0, 0, 0, Sl.none, Sl.none, 0⟩) (Stt.cs ⟨r0, r1, r2, r3, sM, ⟨SA, j, Sc⟩, lst⟩) (done 5) w1 := hZ
    have hxT := CellsAt.of_block ((hz.g.block T hTq (by intro e; injection e with e; omega)).trans X8.out)
    refine q02 rfl ?_ ⟨q04 rfl, noturn rfl⟩
    exact q09 rfl (b := T) (off := 0) (by kernel_rfl) (Stt.cs ⟨r0, r1, r2, r3, sM, ⟨SA, j, Sc⟩, lst⟩) hxT Try.underlying36 rfl (by kernel_rfl)
   ·intro done vals w1 hB _ hZ hni hcl hdn _
    refine q02 rfl ?_ ⟨q04 rfl, noturn rfl⟩
    kernel_rfl
   ·intro done vals w1 hB _ hZ hni hcl hdn _
    have hz : BTz wr B4 36 (Stt.cs ⟨0, 0, 0, 0, Sl.none, Sl.none, 0⟩) (Stt.cs ⟨r0, r1, r2, r3, sM, ⟨SA, j, Sc⟩, lst⟩) (done 5) w1 := hZ
    have hxT := CellsAt.of_block ((hz.g.block T hTq (by intro e; injection e with e; omega)).trans X8.out)
    refine q02 rfl ?_ ⟨q04 rfl, noturn rfl⟩
    exact q0A rfl (by kernel_rfl) (hxT 6 _ rfl) Try.underlying3 rfl
   ·intro done vals w1 hB _ hZ hni hcl hdn _
    refine q02 rfl ?_ ⟨q04 rfl, noturn rfl⟩
    kernel_rfl
   ·intro done vals w1 hB _ hZ hni hcl hdn _
    have hz : BTz wr B4 36 (Stt.cs ⟨0, 0, 0, 0, Sl.none, Sl.none, 0⟩) (Stt.cs ⟨r0, r1, r2, r3, sM, ⟨SA, j, Sc⟩, lst⟩) (done 5) w1 := hZ
    refine q1D (v := .slice (some ⟨w1.heap.size, 0, none⟩) 1 1) (w' := w1.alloc (.cells #[.int .i64 3, .int .i64 (lst)] 124)) rfl (by kernel_rfl) ⟨q16 rfl trivial (hB.trans ((q00 _ _).mono (by have := hB.size; omega))) trivial (by simp) trivial, fun _ => ?_⟩
    exact hz.step (by decide) (q00 _ _)
   ·intro done vals w1 hB _ hZ hni hcl hdn _
    have hz : BTz wr B4 36 (Stt.cs ⟨0, 0, 0, 0, Sl.none, Sl.none, 0⟩) (Stt.cs ⟨r0, r1, r2, r3, sM, ⟨SA, j, Sc⟩, lst⟩) (done 5) w1 := hZ
    have hx := hz.x
    rw [hni, if_neg (by decide)] at hx
    obtain ⟨w2, hr2, hw2, hg2⟩ := q1B (P := Try.prog) (ty := 36) (Stt.v ⟨r0, r1, r2, r3, sM, ⟨SA, j, Sc⟩, lst⟩) (Stt.cs ⟨r0, r1, r2, r3, sM, ⟨SA, j, Sc⟩, lst⟩) rfl hx rfl rfl (by kernel_rfl)
    refine q14 (w' := w2) rfl ?_ ⟨q15 rfl (hB.grown hg2 (by have := hB.size; omega) (fun k hk => by injection hk with hk; omega)) trivial hg2.size trivial, fun _ => hz.did hg2 hw2⟩
    exact q13 rfl (by kernel_rfl) (by kernel_rfl) hr2
   ·intro done vals w1 hB _ hZ hni hcl hdn _
    exact q02 (v := vals 4) rfl (by kernel_rfl) ⟨q0B rfl trivial, noturn rfl⟩
   ·intro done vals w1 hB _ hZ hni hcl hdn _
    refine q02 rfl ?_ ⟨q04 rfl, noturn rfl⟩
    kernel_rfl
   intro done vals w13 b13 _ hall hZ hr
   have hz : BTz wr B4 36 (Stt.cs ⟨0, 0, 0, 0, Sl.none, Sl.none, 0⟩) (Stt.cs ⟨r0, r1, r2, r3, sM, ⟨SA, j, Sc⟩, lst⟩) (done 5) w13 := hZ
   rw [hall 5 (by simp)] at hz
   clear hr
   simp only [fillT, Tell.is, Tell.gets, Tell.turns, Act.put, List.setIfInBounds_toArray, List.set_cons_zero, List.set_cons_succ]
   have hx4 := hz.x
   rw [if_pos rfl] at hx4
   have st := RT.out.row ⟨⟨_, K4.out⟩, hz.g⟩ (by decide)
   have wb := WB.out.trans (b13.mono hb4w)
   go_wp2_with fail
   refine q0C _ [Stt.v ⟨r0, r1, r2, r3, sM, ⟨SA, j, Sc⟩, lst⟩, _, .int .i64 0] Try.results39 (.cons (.cell (cs := Stt.cs ⟨r0, r1, r2, r3, sM, ⟨SA, j, Sc⟩, lst⟩) (b := B4) (off := 0) rfl rfl (q05 hx4) Try.underlying36 rfl (by kernel_rfl)) (.cons (.tmp rfl) (.cons (.tmp rfl) .nil))) rfl ?_
   rw [← HF.out]
   exact ⟨⟨r0, r1, r2, r3, sM, ⟨SA, j, Sc⟩, lst⟩, _, rfl, st, wb⟩
 by_cases hk10 : kind = 10
 ·subst hk10
  have hF := HFO.out
  rw [if_neg (show ¬ (10 : Int) = 1 by decide), if_neg (show ¬ (10 : Int) = 4 by decide), if_neg (show ¬ (10 : Int) = 2 by decide), if_neg (show ¬ (10 : Int) = 3 by decide), if_neg (show ¬ (10 : Int) = 5 by decide), if_neg (show ¬ (10 : Int) = 6 by decide), if_neg (show ¬ (10 : Int) = 7 by decide), if_neg (show ¬ (10 : Int) = 8 by decide), if_neg (show ¬ (10 : Int) = 9 by decide), if_pos rfl] at hF
  have HF := Kept.mk hF
  clear hF HFO
  clear Y2 Y3 Y8 F8
  have YB := fun j => cell_of_row wq (T) j _ _ _ X8.out
  have Y4 := fun j => cell_of_row wq (w.heap.size + 1 + 1) j _ _ _ K4.out
  have F4 := fun j => frozen_of_row wq (w.heap.size + 1 + 1) j _ _ K4.out
  simp only [Stt.cs, Sl.none] at YB Y4
  go_wp2_with fail
  have h := q38 (w := w) (old := ⟨0, 0, 0, 0, Sl.none, Sl.none, 0⟩) (e := ⟨r0, r1, r2, r3, sM, sS, pc + 1⟩) K4.out WB.out (show w.heap.size ≤ w.heap.size + 1 + 1 by omega) RT.out
  dsimp only at h
  obtain ⟨x4, st, wb⟩ := h
  refine q0C _ [Stt.v ⟨r0, r1, r2, r3, sM, sS, pc + 1⟩, .slice none 0 0, .int .i64 0] Try.results39 (.cons (.cell (cs := Stt.cs ⟨r0, r1, r2, r3, sM, sS, pc + 1⟩) (b := w.heap.size + 1 + 1) (off := 0) rfl rfl (q05 x4) Try.underlying36 rfl (by kernel_rfl)) (.cons (.tmp rfl) (.cons (.tmp rfl) .nil))) rfl ?_
  rw [← HF.out]
  exact ⟨⟨r0, r1, r2, r3, sM, sS, pc + 1⟩, _, rfl, st, wb⟩
 by_cases hk11 : kind = 11
 ·subst hk11
  have hF := HFO.out
  rw [if_neg (show ¬ (11 : Int) = 1 by decide), if_neg (show ¬ (11 : Int) = 4 by decide), if_neg (show ¬ (11 : Int) = 2 by decide), if_neg (show ¬ (11 : Int) = 3 by decide), if_neg (show ¬ (11 : Int) = 5 by decide), if_neg (show ¬ (11 : Int) = 6 by decide), if_neg (show ¬ (11 : Int) = 7 by decide), if_neg (show ¬ (11 : Int) = 8 by decide), if_neg (show ¬ (11 : Int) = 9 by decide), if_neg (show ¬ (11 : Int) = 10 by decide), if_pos rfl] at hF
  have HF := Kept.mk hF
  clear hF HFO
  clear Y2 Y3 Y8 F8
  have YB := fun j => cell_of_row wq (w.heap.size + 1) j _ _ _ K3.out
  have Y4 := fun j => cell_of_row wq (w.heap.size + 1 + 1) j _ _ _ K4.out
  have F4 := fun j => frozen_of_row wq (w.heap.size + 1 + 1) j _ _ K4.out
  simp only [Stt.cs, Sl.none] at YB Y4
  go_wp2_with fail
  have h := q38 (w := w) (old := ⟨0, 0, 0, 0, Sl.none, Sl.none, 0⟩) (e := (⟨r0, r1, r2, r3, ⟨mA, mem.length, mC⟩, ⟨sA, stack.length, sC⟩, pc⟩ : Stt)) K4.out WB.out (show w.heap.size ≤ w.heap.size + 1 + 1 by omega) RC.out
  dsimp only at h
  obtain ⟨x4, st, wb⟩ := h
  refine q0C _ [Stt.v (⟨r0, r1, r2, r3, ⟨mA, mem.length, mC⟩, ⟨sA, stack.length, sC⟩, pc⟩ : Stt), .slice none 0 0, .int .i64 1] Try.results39 (.cons (.cell (cs := Stt.cs (⟨r0, r1, r2, r3, ⟨mA, mem.length, mC⟩, ⟨sA, stack.length, sC⟩, pc⟩ : Stt)) (b := w.heap.size + 1 + 1) (off := 0) rfl rfl (q05 x4) Try.underlying36 rfl (by kernel_rfl)) (.cons (.tmp rfl) (.cons (.tmp rfl) .nil))) rfl ?_
  rw [← HF.out]
  exact ⟨(⟨r0, r1, r2, r3, ⟨mA, mem.length, mC⟩, ⟨sA, stack.length, sC⟩, pc⟩ : Stt), _, rfl, st, wb⟩
 have hF := HFO.out
 rw [if_neg hk1, if_neg hk4, if_neg hk2, if_neg hk3, if_neg hk5, if_neg hk6, if_neg hk7, if_neg hk8, if_neg hk9, if_neg hk10, if_neg hk11] at hF
 have HF := Kept.mk hF
 clear hF HFO
 have k1 : (kind == 1) = false := by simp [hk1]
 have k4 : (kind == 4) = false := by simp [hk4]
 have k2 : (kind == 2) = false := by simp [hk2]
 have k3 : (kind == 3) = false := by simp [hk3]
 have k5 : (kind == 5) = false := by simp [hk5]
 have k6 : (kind == 6) = false := by simp [hk6]
 have k7 : (kind == 7) = false := by simp [hk7]
 have k8 : (kind == 8) = false := by simp [hk8]
 have k9 : (kind == 9) = false := by simp [hk9]
 have k10 : (kind == 10) = false := by simp [hk10]
 have k11 : (kind == 11) = false := by simp [hk11]
 clear hk1 hk4 hk2 hk3 hk5 hk6 hk7 hk8 hk9 hk10 hk11
 clear Y2 Y3 Y8 F8
 have YB := fun j => cell_of_row wq (w.heap.size + 1) j _ _ _ K3.out
 have Y4 := fun j => cell_of_row wq (w.heap.size + 1 + 1) j _ _ _ K4.out
 have F4 := fun j => frozen_of_row wq (w.heap.size + 1 + 1) j _ _ K4.out
 simp only [Stt.cs, Sl.none] at YB Y4
 go_wp2_with fail
 have h := q38 (w := w) (old := ⟨0, 0, 0, 0, Sl.none, Sl.none, 0⟩) (e := (⟨r0, r1, r2, r3, ⟨mA, mem.length, mC⟩, ⟨sA, stack.length, sC⟩, pc⟩ : Stt)) K4.out WB.out (show w.heap.size ≤ w.heap.size + 1 + 1 by omega) RC.out
 dsimp only at h
 obtain ⟨x4, st, wb⟩ := h
 refine q0C _ [Stt.v (⟨r0, r1, r2, r3, ⟨mA, mem.length, mC⟩, ⟨sA, stack.length, sC⟩, pc⟩ : Stt), .slice none 0 0, .int .i64 2] Try.results39 (.cons (.cell (cs := Stt.cs (⟨r0, r1, r2, r3, ⟨mA, mem.length, mC⟩, ⟨sA, stack.length, sC⟩, pc⟩ : Stt)) (b := w.heap.size + 1 + 1) (off := 0) rfl rfl (q05 x4) Try.underlying36 rfl (by kernel_rfl)) (.cons (.tmp rfl) (.cons (.tmp rfl) .nil))) rfl ?_
 rw [← HF.out]
 exact ⟨(⟨r0, r1, r2, r3, ⟨mA, mem.length, mC⟩, ⟨sA, stack.length, sC⟩, pc⟩ : Stt), _, rfl, st, wb⟩
end
end Go.Proofs.Ytchldbkjapnlcaa
