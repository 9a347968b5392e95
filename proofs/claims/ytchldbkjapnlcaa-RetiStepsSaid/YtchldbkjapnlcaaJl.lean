/- States of a program, layer 7. Where a walk comes to, for the laws: a machine of a program of numbers. -/
import Derived.Test.YtchldbkjapnlcaaJk
import Derived.Test.YtchldbkjapnlcaaJMk5
set_option linter.unusedVariables false
set_option linter.unusedSimpArgs false
namespace Go.Proofs.Ytchldbkjapnlcaa
open Go.RowKit
section
theorem StGood.row {w w' : World} {s : Stt} {m : State} {g : Nat} {t : TypeId} (h : StGood w s m) (hs : RowStep g t w w') (ht : t ≠ 3) : StGood w' s m :=
 ⟨⟨h.st.r0, h.st.r1, h.st.r2, h.st.r3, h.st.mem.row h.tm hs ht, h.st.stack.row h.ts hs ht, h.st.pc⟩, h.tm.row hs ht, h.ts.row hs ht, h.ok⟩
theorem own_set_int {w : World} {B g n c : Nat} {l : List Int} (h : OwnI w B (.slice (some ⟨g, 0, none⟩) n c) l) (k : Nat) (hk : k < l.length) (v : Int) : OwnI (w.setCell ⟨g, k, none⟩ (.int .i64 v)) B (.slice (some ⟨g, 0, none⟩) n c) (l.set k v) := by
 obtain ⟨g', e', _, _, _, _, hs⟩ := OwnI.elS h hk v
 injection e' with e'
 injection e' with e'
 subst e'
 exact hs
def sttSt (w : World) (g : Nat) (e : Stt) : World := ((((((w.setCell ⟨g, 0, none⟩ (.int .i64 e.r0)).setCell ⟨g, 1, none⟩ (.int .i64 e.r1)).setCell ⟨g, 2, none⟩ (.int .i64 e.r2)).setCell ⟨g, 3, none⟩ (.int .i64 e.r3)).setCell ⟨g, 4, none⟩ (.slice e.mem.A e.mem.n e.mem.c)).setCell ⟨g, 5, none⟩ (.slice e.stack.A e.stack.n e.stack.c)).setCell ⟨g, 6, none⟩ (.int .i64 e.pc)
theorem sttSt_heap {w : World} {g : Nat} {t : TypeId} (old e : Stt) (h : w.heap[g]? = some (.cells old.cs.toArray t (0, 0))) : (sttSt w g e).heap[g]? = some (.cells e.cs.toArray t (0, 0)) := stt_set old e h
theorem heap_drew {w : World} {g : Nat} {o : Obj} (h : w.heap[g]? = some o) : w.drew.heap[g]? = some o := h
theorem StGood.drew {w : World} {s : Stt} {m : State} (h : StGood w s m) : StGood w.drew s m := h.past (Below.refl _ _).drew
theorem sttSt_grown (w : World) (g : Nat) (e : Stt) : w.grownBy (sttSt w g e) (some g) := grown7 w g e
theorem sttSt_below {w0 w : World} {B g : Nat} (e : Stt) (h : Below B w0 w) (hg : B ≤ g) : Below B w0 (sttSt w g e) := below7 e h hg
def StatesPost (w : World) (en : Ending) (w' : World) : Prop := ∃ (s t : Stt) (ms mt : State), en = .returned (.tuple #[s.v, t.v]) ∧ StGood w' s ms ∧ StGood w' t mt ∧ Below w.heap.size w w'
set_option maxRecDepth 100000 in
set_option maxHeartbeats 1500000 in
theorem states_any (p : Prg) (ml : List MemE) (mA : Option Addr) (mC : Nat) (lA : Option Addr) (l : List Int) (lC : Nat) (w : World) (hm : p.mems = .slice mA ml.length mC) (hr : RdM w mA ml) (hok : MemOk ml) (hW : p.W = 1 ∨ p.W = 2) (hl : RdI w lA l) :
  Calls Try.prog 24 #[p.v, .slice lA l.length lC, .int .i64 1] w (StatesPost w) := by
 have HR := Kept.mk hr
 have HL := Kept.mk hl
 have HPl := Kept.mk (fun w1 (h1 : RdM w1 mA ml) => places_any p ml mA mC w1 hm h1 hok)
 have HSt : Kept (∀ (A : Option Addr) (x : List Int) (n c : Nat) (w1 : World), x.length = n → RdM w1 mA ml → RdI w1 A x → Calls Try.prog 59 #[p.v, .slice A n c] w1 (StartPost w1)) := ⟨fun A x n c w1 hn h1 h2 => by subst hn; exact start_any p ml mA mC A x c w1 hm h1 hok hW h2⟩
 have h17 : bits BinOp.and .i64 1 7 = 1 := by kernel_rfl
 clear hr hl hok hm hW
 unfold Prg.v
 go_enter Try.func24, Try.ntmps24
 go_wp2_with fail
 have B0 := Kept.mk (((q00 w (.cells p.cs.toArray 33)).alloc (by simp) (.cells #[.int .i64 0, .int .i64 0, .int .i64 0, .int .i64 0, .slice none 0 0, .slice none 0 0, .int .i64 0] 36)).alloc (by simp; omega) (.cells #[.int .i64 0, .int .i64 0, .int .i64 0, .int .i64 0, .slice none 0 0, .slice none 0 0, .int .i64 0] 36))
 refine (HPl.out _ (HR.out.past B0.out)).mono ?_
 rintro en w1 ⟨v1, ql, rfl, hq, hql, hqp, b1⟩
 obtain ⟨qA, qC, rfl, hqc, rq⟩ := q2F hq
 have x0 := (b1.block (w.heap.size) (by simp <;> omega)).trans ((heap_alloc_old _ _ (by simp; omega)).trans ((heap_alloc_old _ _ (by simp)).trans (heap_alloc_new w (.cells p.cs.toArray 33))))
 have x1 := (b1.block (w.heap.size + 1) (by simp <;> omega)).trans ((heap_alloc_old _ _ (by simp)).trans (heap_alloc2_new w (.cells p.cs.toArray 33) (.cells #[.int .i64 0, .int .i64 0, .int .i64 0, .int .i64 0, .slice none 0 0, .slice none 0 0, .int .i64 0] 36)))
 have x2 := (b1.block (w.heap.size + 1 + 1) (by simp)).trans (q06 (o := (.cells #[.int .i64 0, .int .i64 0, .int .i64 0, .int .i64 0, .slice none 0 0, .slice none 0 0, .int .i64 0] 36)) (by simp))
 have S1 : w.heap.size + 3 ≤ w1.heap.size := by have := b1.size; simpa using this
 have W1 := Kept.mk (B0.out.trans (b1.mono B0.out.size))
 have K0 := Kept.mk x0
 have K1 := Kept.mk x1
 have K2 := Kept.mk x2
 have RQ := Kept.mk (show RdP w1 qA ql from rq)
 clear hq b1 x0 x1 x2 rq hqp hqc B0
 go_wp2_with fail
 refine states_make w1 w1.heap.size ql.length qC qA rfl (by omega) _ ?_
 intros
 rename_i w2 gx gy hxy ox oy b2
 have OX := Kept.mk ox
 have OY := Kept.mk oy
 have B2 := Kept.mk b2
 have hgx : w1.heap.size ≤ gx := (World.ownsRow.lt ox gx rfl).1
 have hgy : w1.heap.size ≤ gy := (World.ownsRow.lt oy gy rfl).1
 clear ox oy b2
 go_wp2_with fail
 go_loopw [26] (fun s26 wr => ∃ (k : Nat) (lx ly : List Int), k ≤ ql.length ∧ s26 = .int .i64 (k : Int) ∧ Kept (lx.length = ql.length) ∧ Kept (ly.length = ql.length) ∧ OwnI wr w1.heap.size (.slice (some ⟨gx, 0, none⟩) ql.length ql.length) lx ∧ OwnI wr w1.heap.size (.slice (some ⟨gy, 0, none⟩) ql.length ql.length) ly ∧ Below w1.heap.size w1 wr) (fun s26 _ => ql.length - (intOf s26).toNat)
 case atStart => exact ⟨0, List.replicate ql.length 0, List.replicate ql.length 0, Nat.zero_le _, rfl, ⟨List.length_replicate ..⟩, ⟨List.length_replicate ..⟩, OX.out, OY.out, B2.out⟩
 case round =>
  clear OX OY B2
  obtain ⟨k, lx, ly, hk, rfl, hlx, hly, ox, oy, hb⟩ := hrel
  have OX := Kept.mk ox
  have OY := Kept.mk oy
  have HB := Kept.mk hb
  have HW := Kept.mk (W1.out.trans (hb.mono W1.out.size))
  have RQw := Kept.mk (RQ.out.past hb)
  clear ox oy hb
  have hyx : gy ≠ gx := Ne.symm hxy
  by_cases hlt : k < ql.length
  ·have hki : (k : Int) < (ql.length : Int) := by omega
   by_cases hkl : k < l.length
   ·have hkli : (k : Int) < (l.length : Int) := by omega
    obtain ⟨lB, lO, rfl, hlb, zl0⟩ := RdI.at_ HL.out hkl
    have zl := (HW.out.cell (p := ⟨lB, lO + k, none⟩) hlb).trans zl0
    obtain ⟨b, o, rfl, hbb, z0, z1, z2⟩ := RdP.at_ RQ.out hlt
    have z2 := (HB.out.cell (p := ⟨b, o + k * 3 + 2, none⟩) hbb).trans z2
    obtain ⟨g', e', hB', -, cx, fx, sx⟩ := OwnI.elS OX.out (k := k) (by rw [hlx.out]; exact hlt) l[k]
    injection e' with e'
    injection e' with e'
    subst e'
    obtain ⟨g', e', hB2, -, cy, fy, sy⟩ := OwnI.elS OY.out (k := k) (by rw [hly.out]; exact hlt) l[k]
    injection e' with e'
    injection e' with e'
    subst e'
    have n1 : lB ≠ gx := by omega
    have n2 : lB ≠ gy := by omega
    have n3 : b ≠ gx := by omega
    have n4 : b ≠ gy := by omega
    have n5 : gx ≠ lB := by omega
    have n6 : gy ≠ lB := by omega
    have n7 : gx ≠ b := by omega
    have n8 : gy ≠ b := by omega
    clear z0 z1 zl0 sx sy
    cases hs : ql[k].secret
    ·rw [hs] at z2
     clear hs
     go_wp2_with fail
     go_region
     all_goals
      go_wp2_with fail
     exact ⟨⟨k + 1, lx.set k l[k], ly.set k l[k], by omega, by go_num, ⟨by rw [List.length_set]; exact hlx.out⟩, ⟨by simp only [List.length_set]; exact hly.out⟩, q31 (own_set_int OX.out k (by rw [hlx.out]; exact hlt) l[k]) hxy, own_set_int (q31 OY.out hyx) k (by rw [hly.out]; exact hlt) l[k], ((HB.out.setCell (p := ⟨gx, k, none⟩) hgx (.int .i64 l[k])).setCell (p := ⟨gy, k, none⟩) hgy (.int .i64 l[k])).drew⟩, by simp [intOf] <;> omega⟩
    ·rw [hs] at z2
     clear hs
     go_wp2_with fail
     go_region
     all_goals
      go_wp2_with fail
     exact ⟨⟨k + 1, lx.set k l[k], (ly.set k l[k]).set k (l[k] / 16), by omega, by go_num, ⟨by rw [List.length_set]; exact hlx.out⟩, ⟨by simp only [List.length_set]; exact hly.out⟩, q31 (q31 (own_set_int OX.out k (by rw [hlx.out]; exact hlt) l[k]) hxy) hxy, own_set_int (own_set_int (q31 OY.out hyx) k (by rw [hly.out]; exact hlt) l[k]) k (by rw [List.length_set, hly.out]; exact hlt) (l[k] / 16), (((HB.out.setCell (p := ⟨gx, k, none⟩) hgx (.int .i64 l[k])).setCell (p := ⟨gy, k, none⟩) hgy (.int .i64 l[k])).setCell (p := ⟨gy, k, none⟩) hgy (.int .i64 (l[k] / 16))).drew⟩, by simp [intOf] <;> omega⟩
   ·have hkli : ¬ (k : Int) < (l.length : Int) := by omega
    go_wp2_with fail
    exact ⟨⟨k + 1, lx, ly, by omega, by go_num, hlx, hly, OX.out, OY.out, HB.out⟩, by simp [intOf] <;> omega⟩
  ·have hki : ¬ (k : Int) < (ql.length : Int) := by omega
   have K0w := Kept.mk ((HB.out.block _ (by omega)).trans K0.out)
   have K1w := Kept.mk ((HB.out.block _ (by omega)).trans K1.out)
   have K2w := Kept.mk ((HB.out.block _ (by omega)).trans K2.out)
   have Y0 := fun j => cell_of_row wr w.heap.size j _ _ _ K0w.out
   simp only [Prg.cs] at Y0
   have SR : w.heap.size + 3 ≤ wr.heap.size := by have := HB.out.size; omega
   go_wp2_with fail
   refine (HSt.out (some ⟨gx, 0, none⟩) lx ql.length ql.length wr hlx.out (HR.out.past HW.out) (OwnI.is (s := ⟨some ⟨gx, 0, none⟩, ql.length, ql.length⟩) OX.out).r).mono ?_
   rintro en w4 ⟨s1, ms1, ok1, rfl, hg1, b4⟩
   have W4 := Kept.mk (HW.out.trans (b4.mono HW.out.size))
   have G1 := Kept.mk hg1
   have K0w := Kept.mk (q01 K0w.out b4)
   have K1w := Kept.mk (q01 K1w.out b4)
   have K2w := Kept.mk (q01 K2w.out b4)
   have OY := Kept.mk (OY.out.past b4)
   have S4 : wr.heap.size ≤ w4.heap.size := b4.size
   clear hg1 b4 Y0
   obtain ⟨a0, a1, a2, a3, ⟨aA, aN, aC⟩, ⟨cA, cN, cC⟩, a6⟩ := s1
   go_upto_region 12 with (fail)
   have ba := q00 w4 (.cells #[.int .i64 a0, .int .i64 a1, .int .i64 a2, .int .i64 a3, .slice aA aN aC, .slice cA cN cC, .int .i64 a6] 36)
   have X12 := Kept.mk (heap_alloc_new w4 (.cells #[.int .i64 a0, .int .i64 a1, .int .i64 a2, .int .i64 a3, .slice aA aN aC, .slice cA cN cC, .int .i64 a6] 36))
   have SA : w4.heap.size + 1 ≤ (w4.alloc (.cells #[.int .i64 a0, .int .i64 a1, .int .i64 a2, .int .i64 a3, .slice aA aN aC, .slice cA cN cC, .int .i64 a6] 36)).heap.size := by simp
   have W4 := Kept.mk (W4.out.trans (ba.mono W4.out.size))
   have G1 := Kept.mk (G1.out.past ba)
   have K0w := Kept.mk (q01 K0w.out ba)
   have K1w := Kept.mk (q01 K1w.out ba)
   have K2w := Kept.mk (q01 K2w.out ba)
   have OY := Kept.mk (OY.out.past ba)
   clear ba
   generalize w4.alloc (.cells #[.int .i64 a0, .int .i64 a1, .int .i64 a2, .int .i64 a3, .slice aA aN aC, .slice cA cN cC, .int .i64 a6] 36) = w4a at *
   have Y0 := fun j => cell_of_row w4a w.heap.size j _ _ _ K0w.out
   simp only [Prg.cs] at Y0
   go_wp2_with fail
   refine (HSt.out (some ⟨gy, 0, none⟩) ly ql.length ql.length w4a hly.out (HR.out.past W4.out) (OwnI.is (s := ⟨some ⟨gy, 0, none⟩, ql.length, ql.length⟩) OY.out).r).mono ?_
   rintro en w5 ⟨s2, ms2, ok2, rfl, hg2, b5⟩
   have W5 := Kept.mk (W4.out.trans (b5.mono W4.out.size))
   have G1 := Kept.mk (G1.out.past b5)
   have G2 := Kept.mk hg2
   have X12 := Kept.mk (q01 X12.out b5)
   have K1w := Kept.mk (q01 K1w.out b5)
   have K2w := Kept.mk (q01 K2w.out b5)
   have S5 : w4a.heap.size ≤ w5.heap.size := b5.size
   clear hg2 b5 Y0 K0w
   obtain ⟨d0, d1, d2, d3, ⟨dA, dN, dC⟩, ⟨fA, fN, fC⟩, d6⟩ := s2
   go_upto_region 13 with (fail)
   have ba := q00 w5 (.cells #[.int .i64 d0, .int .i64 d1, .int .i64 d2, .int .i64 d3, .slice dA dN dC, .slice fA fN fC, .int .i64 d6] 36)
   have X14 := Kept.mk (heap_alloc_new w5 (.cells #[.int .i64 d0, .int .i64 d1, .int .i64 d2, .int .i64 d3, .slice dA dN dC, .slice fA fN fC, .int .i64 d6] 36))
   have W6 := Kept.mk (W5.out.trans (ba.mono W5.out.size))
   have G1 := Kept.mk (G1.out.past ba)
   have G2 := Kept.mk (G2.out.past ba)
   have X12 := Kept.mk (q01 X12.out ba)
   have K1w := Kept.mk (q01 K1w.out ba)
   have K2w := Kept.mk (q01 K2w.out ba)
   clear ba
   generalize w5.alloc (.cells #[.int .i64 d0, .int .i64 d1, .int .i64 d2, .int .i64 d3, .slice dA dN dC, .slice fA fN fC, .int .i64 d6] 36) = w6 at *
   have Y12 := fun j => cell_of_row w6 w4.heap.size j _ _ _ X12.out
   have Y14 := fun j => cell_of_row w6 w5.heap.size j _ _ _ X14.out
   have Y1 := fun j => cell_of_row w6 (w.heap.size + 1) j _ _ _ K1w.out
   have Y2 := fun j => cell_of_row w6 (w.heap.size + 1 + 1) j _ _ _ K2w.out
   have F1 := fun j => frozen_of_row w6 (w.heap.size + 1) j _ _ K1w.out
   have F2 := fun j => frozen_of_row w6 (w.heap.size + 1 + 1) j _ _ K2w.out
   have m1 : w.heap.size + 1 ≠ w4.heap.size := by omega
   have m2 : w.heap.size + 1 ≠ w5.heap.size := by omega
   have m3 : w.heap.size + 1 + 1 ≠ w4.heap.size := by omega
   have m4 : w.heap.size + 1 + 1 ≠ w5.heap.size := by omega
   have m5 : w4.heap.size ≠ w.heap.size + 1 := by omega
   have m6 : w5.heap.size ≠ w.heap.size + 1 := by omega
   have m7 : w4.heap.size ≠ w.heap.size + 1 + 1 := by omega
   have m8 : w5.heap.size ≠ w.heap.size + 1 + 1 := by omega
   go_region
   all_goals
    go_wp2_with fail
   have hA1 := sttSt_heap (w := w6) (g := w.heap.size + 1) ⟨0, 0, 0, 0, Sl.none, Sl.none, 0⟩ ⟨a0, a1, a2, a3, ⟨aA, aN, aC⟩, ⟨cA, cN, cC⟩, a6⟩ K1w.out
   have hgA := sttSt_grown w6 (w.heap.size + 1) ⟨a0, a1, a2, a3, ⟨aA, aN, aC⟩, ⟨cA, cN, cC⟩, a6⟩
   have K2A := (hgA.block (w.heap.size + 1 + 1) (Array.getElem?_eq_some_iff.1 K2w.out).1 (by intro h; injection h with h; omega)).trans K2w.out
   have hB2 := sttSt_heap (w := sttSt w6 (w.heap.size + 1) ⟨a0, a1, a2, a3, ⟨aA, aN, aC⟩, ⟨cA, cN, cC⟩, a6⟩) (g := w.heap.size + 1 + 1) ⟨0, 0, 0, 0, Sl.none, Sl.none, 0⟩ ⟨d0, d1, d2, d3, ⟨dA, dN, dC⟩, ⟨fA, fN, fC⟩, d6⟩ K2A
   have hgB := sttSt_grown (sttSt w6 (w.heap.size + 1) ⟨a0, a1, a2, a3, ⟨aA, aN, aC⟩, ⟨cA, cN, cC⟩, a6⟩) (w.heap.size + 1 + 1) ⟨d0, d1, d2, d3, ⟨dA, dN, dC⟩, ⟨fA, fN, fC⟩, d6⟩
   have hB1 := (hgB.block (w.heap.size + 1) (Array.getElem?_eq_some_iff.1 hA1).1 (by intro h; injection h with h; omega)).trans hA1
   have g1 := (G1.out.row ⟨⟨_, K1w.out⟩, hgA⟩ (by decide)).row ⟨⟨_, K2A⟩, hgB⟩ (by decide)
   have g2 := (G2.out.row ⟨⟨_, K1w.out⟩, hgA⟩ (by decide)).row ⟨⟨_, K2A⟩, hgB⟩ (by decide)
   have wb := sttSt_below (g := w.heap.size + 1 + 1) ⟨d0, d1, d2, d3, ⟨dA, dN, dC⟩, ⟨fA, fN, fC⟩, d6⟩ (sttSt_below (g := w.heap.size + 1) ⟨a0, a1, a2, a3, ⟨aA, aN, aC⟩, ⟨cA, cN, cC⟩, a6⟩ W6.out (by omega)) (by omega)
   have hC1 := heap_drew hB1
   have hC2 := heap_drew hB2
   have g1 := g1.drew
   have g2 := g2.drew
   have wb := wb.drew
   clear hA1 hgA K2A hB2 hgB hB1
   dsimp only [sttSt] at hC1 hC2 g1 g2 wb
   refine q0C _ [Stt.v ⟨a0, a1, a2, a3, ⟨aA, aN, aC⟩, ⟨cA, cN, cC⟩, a6⟩, Stt.v ⟨d0, d1, d2, d3, ⟨dA, dN, dC⟩, ⟨fA, fN, fC⟩, d6⟩] Try.results24 (.cons (.cell (cs := Stt.cs ⟨a0, a1, a2, a3, ⟨aA, aN, aC⟩, ⟨cA, cN, cC⟩, a6⟩) (b := w.heap.size + 1) (off := 0) rfl rfl (q05 hC1) Try.underlying36 rfl (by kernel_rfl)) (.cons (.cell (cs := Stt.cs ⟨d0, d1, d2, d3, ⟨dA, dN, dC⟩, ⟨fA, fN, fC⟩, d6⟩) (b := w.heap.size + 1 + 1) (off := 0) rfl rfl (q05 hC2) Try.underlying36 rfl (by kernel_rfl)) .nil)) rfl ?_
   exact ⟨⟨a0, a1, a2, a3, ⟨aA, aN, aC⟩, ⟨cA, cN, cC⟩, a6⟩, ⟨d0, d1, d2, d3, ⟨dA, dN, dC⟩, ⟨fA, fN, fC⟩, d6⟩, ms1, ms2, rfl, g1, g2, wb⟩
end
section
structure Mach (w : World) (p : Prg) (il : List Inst) (c : Cnf) (m : Conf) (L k : Nat) : Prop where
 pi : PIs w p il
 ok : ProgOk p.W p.window il
 cf : CfIs w c m
 ty : CfTy w c
 inv : Inv p.window il L k m
 kl : k ≤ 60
 ll : L ≤ 1000
theorem Mach.past {w w' : World} {p : Prg} {il : List Inst} {c : Cnf} {m : Conf} {L k : Nat} (h : Mach w p il c m L k) (hb : Below w.heap.size w w') : Mach w' p il c m L k := ⟨h.pi.past hb, h.ok, h.cf.past hb, h.ty.past hb, h.inv, h.kl, h.ll⟩
theorem make_prog {w : World} {p : Prg} {il : List Inst} {ml : List MemE} (h : MakeIs w p il ml) : ProgOk p.W p.window il := ⟨h.W, h.win, h.ok, by have := h.len; omega⟩
theorem inv_start {win : Int} {il : List Inst} {ms : State} (hw : 1 ≤ win) (h : InitOk ms) : Inv win il ms.mem.length 0 ⟨ms, [], [], 0⟩ :=
 ⟨.inl rfl, by show ((0 : Nat) : Int) ≤ win; omega, h.r0, h.r1, h.r2, h.r3, rfl, h.mem, by rw [h.stack]; exact Nat.le_refl _, by rw [h.stack]; exact fun _ hx => (by cases hx), Nat.zero_le _, fun _ hx => (by cases hx), by rw [h.pc]; exact ⟨by decide, by omega⟩, fun _ hx => (by cases hx), fun j _ hx => (by cases j <;> cases hx)⟩
theorem states_mach (p : Prg) (il : List Inst) (ml : List MemE) (lA : Option Addr) (l : List Int) (n lC : Nat) (w : World) (hn : l.length = n) (h : MakeIs w p il ml) (hl : RdI w lA l) :
  Calls Try.prog 24 #[p.v, .slice lA n lC, .int .i64 1] w (StatesPost w) := by
 subst hn
 obtain ⟨A, c, e, _, hr⟩ := h.mem
 exact states_any p ml A c lA l lC w e hr h.mok h.W hl
theorem make_at (AL : Option Addr) (l : List Int) (n cL : Nat) (w : World) (hn : l.length = n) (hl : RdI w AL l) : Calls Try.prog 23 #[.slice AL n cL] w (MakePost w) := by
 subst hn
 exact make_any AL l cL w hl
end
end Go.Proofs.Ytchldbkjapnlcaa
