/- The document's own answer, layer 7: where a program starts. States of a program, layer 7: the region that makes two rows. -/
import Derived.Test.YtchldbkjapnlcaaJj
import Derived.Test.YtchldbkjapnlcaaJe
import Derived.Test.YtchldbkjapnlcaaJc
set_option linter.unusedVariables false
set_option linter.unusedSimpArgs false
namespace Go.Proofs.Ytchldbkjapnlcaa
open Go.RowKit
section
structure InitOk (m : State) : Prop where
 r0 : N4 m.r0
 r1 : N4 m.r1
 r2 : N4 m.r2
 r3 : N4 m.r3
 ml : m.mem.length ≤ 1000
 mem : ∀ x ∈ m.mem, N4 x
 stack : m.stack = []
 pc : m.pc = 0
structure StGood (w : World) (s : Stt) (m : State) : Prop where
 st : StIs w s m
 tm : Tag w 3 s.mem.A s.mem.n
 ts : Tag w 3 s.stack.A s.stack.n
 ok : InitOk m
theorem StGood.past {w w' : World} {s : Stt} {m : State} (h : StGood w s m) (hb : Below w.heap.size w w') : StGood w' s m := ⟨h.st.past hb, h.tm.past hb, h.ts.past hb, h.ok⟩
def StartPost (w : World) (en : Ending) (w' : World) : Prop := ∃ (s : Stt) (ms : State) (b : Bool), en = .returned (.tuple #[s.v, .bool b]) ∧ StGood w' s ms ∧ Below w.heap.size w w'
theorem stt_set {w : World} {g : Nat} {t : TypeId} (old e : Stt) (h : w.heap[g]? = some (.cells old.cs.toArray t (0, 0))) :
  (((((((w.setCell ⟨g, 0, none⟩ (.int .i64 e.r0)).setCell ⟨g, 1, none⟩ (.int .i64 e.r1)).setCell ⟨g, 2, none⟩ (.int .i64 e.r2)).setCell ⟨g, 3, none⟩ (.int .i64 e.r3)).setCell ⟨g, 4, none⟩ (.slice e.mem.A e.mem.n e.mem.c)).setCell ⟨g, 5, none⟩ (.slice e.stack.A e.stack.n e.stack.c)).setCell ⟨g, 6, none⟩ (.int .i64 e.pc)).heap[g]? = some (.cells e.cs.toArray t (0, 0)) := by
 rw [heap_setCell_same _ g 6 _ t _ (heap_setCell_same _ g 5 _ t _ (heap_setCell_same _ g 4 _ t _ (heap_setCell_same _ g 3 _ t _ (heap_setCell_same _ g 2 _ t _ (heap_setCell_same _ g 1 _ t _ (heap_setCell_same _ g 0 _ t _ h))))))]
 rfl
theorem made_zeros (n : Nat) : (madeCells #[Value.int .i64 0] n).toList = intCs (List.replicate n 0) := by
 unfold madeCells
 apply List.ext_getElem?
 intro i
 by_cases hi : i < n
 ·simp [intCs, hi, Nat.mod_one]
 ·simp [intCs, hi]
theorem q31 {w : World} {B gm n c g j : Nat} {u : Value} {l : List Int} (h : OwnI w B (.slice (some ⟨gm, 0, none⟩) n c) l) (hne : gm ≠ g) : OwnI (w.setCell ⟨g, j, none⟩ u) B (.slice (some ⟨gm, 0, none⟩) n c) l :=
 World.ownsRow.kept h (q08 w ⟨g, j, none⟩ u) (.inr (fun e => by injection e with e; exact hne e))
theorem below_none {w w' : World} (h : w.grownBy w' none) : Below w.heap.size w w' := ⟨h.os, h.tape, h.output, h.size, fun i hi => h.block i hi (by intro e; cases e)⟩
theorem zero_good {w : World} : StGood w ⟨0, 0, 0, 0, Sl.none, Sl.none, 0⟩ ⟨0, 0, 0, 0, [], [], 0⟩ :=
 ⟨⟨rfl, rfl, rfl, rfl, RdIs.nil, RdIs.nil, rfl⟩, Tag.zero, Tag.zero, ⟨⟨by decide, by decide⟩, ⟨by decide, by decide⟩, ⟨by decide, by decide⟩, ⟨by decide, by decide⟩, Nat.zero_le _, fun _ h => (by cases h), rfl, rfl⟩⟩
set_option maxRecDepth 100000 in
set_option maxHeartbeats 8000000 in
theorem start_any (p : Prg) (ml : List MemE) (mA : Option Addr) (mC : Nat) (lA : Option Addr) (l : List Int) (lC : Nat) (w : World) (hm : p.mems = .slice mA ml.length mC) (hr : RdM w mA ml) (hok : MemOk ml) (hW : p.W = 1 ∨ p.W = 2) (hl : RdI w lA l) :
  Calls Try.prog 59 #[p.v, .slice lA l.length lC] w (StartPost w) := by
 have HR := Kept.mk hr
 have HL := Kept.mk hl
 have HPl := Kept.mk (fun w1 (h1 : RdM w1 mA ml) => places_any p ml mA mC w1 hm h1 hok)
 have HCe := Kept.mk (fun w1 (h1 : RdM w1 mA ml) => cells_any p ml mA mC w1 hm h1 hok)
 have HMK := Kept.mk (fun x w1 => q23 p.W x hW w1)
 have HN4 := Kept.mk (fun x => maskW_n4 p.W x hW)
 have hcb : cellsTo ml ml.length ≤ 4 := by have := cellsTo_bd hok ml.length; have := hok.1; omega
 clear hr hl hok hm hW
 generalize hNN : cellsTo ml ml.length = n at *
 have HNN := Kept.mk hNN
 clear hNN
 unfold Prg.v
 go_enter Try.func59, Try.ntmps59
 go_wp2_with fail
 have B0 := Kept.mk ((q00 w (.cells p.cs.toArray 33)).alloc (by simp) (.cells #[.int .i64 0, .int .i64 0, .int .i64 0, .int .i64 0, .slice none 0 0, .slice none 0 0, .int .i64 0] 36))
 refine (HPl.out _ (HR.out.past B0.out)).mono ?_
 rintro en w1 ⟨v1, ql, rfl, hq, hql, hqp, b1⟩
 obtain ⟨qA, qC, rfl, hqc, rq⟩ := q2F hq
 have x0 := (b1.block (w.heap.size) (by simp <;> omega)).trans ((heap_alloc_old _ _ (by simp)).trans (heap_alloc_new w (.cells p.cs.toArray 33)))
 have x1 := (b1.block (w.heap.size + 1) (by simp)).trans (heap_alloc2_new w (.cells p.cs.toArray 33) (.cells #[.int .i64 0, .int .i64 0, .int .i64 0, .int .i64 0, .slice none 0 0, .slice none 0 0, .int .i64 0] 36))
 have S1 : w.heap.size + 2 ≤ w1.heap.size := by have := b1.size; simpa using this
 have W1 := Kept.mk (B0.out.trans (b1.mono B0.out.size))
 have K0 := Kept.mk x0
 have K1 := Kept.mk x1
 have RQ := Kept.mk (show RdP w1 qA ql from rq)
 rw [HNN.out] at hqp
 have HQP := Kept.mk hqp
 have Y0 := fun j => cell_of_row w1 w.heap.size j _ _ _ x0
 have Y1 := fun j => cell_of_row w1 (w.heap.size + 1) j _ _ _ x1
 have F1 := fun j => frozen_of_row w1 (w.heap.size + 1) j _ _ x1
 simp only [Prg.cs] at Y0
 clear hq b1 x0 x1 rq hqp hqc
 by_cases hne : l.length = ql.length
 case neg =>
  have hne1 : ((l.length : Int) != (ql.length : Int)) = true := by simp; omega
  have hne2 : ¬ (l.length : Int) = (ql.length : Int) := by omega
  clear hne
  go_wp2_with fail
  have wb : Below w.heap.size w (((((((w1.setCell ⟨w.heap.size + 1, 0, none⟩ (.int .i64 0)).setCell ⟨w.heap.size + 1, 1, none⟩ (.int .i64 0)).setCell ⟨w.heap.size + 1, 2, none⟩ (.int .i64 0)).setCell ⟨w.heap.size + 1, 3, none⟩ (.int .i64 0)).setCell ⟨w.heap.size + 1, 4, none⟩ (.slice none 0 0)).setCell ⟨w.heap.size + 1, 5, none⟩ (.slice none 0 0)).setCell ⟨w.heap.size + 1, 6, none⟩ (.int .i64 0)) := by
   iterate 7 refine Below.setCell ?_ (by show w.heap.size ≤ w.heap.size + 1; omega) _
   exact W1.out
  have x4 := stt_set (w := w1) (g := w.heap.size + 1) ⟨0, 0, 0, 0, Sl.none, Sl.none, 0⟩ ⟨0, 0, 0, 0, Sl.none, Sl.none, 0⟩ K1.out
  exact q0C _ [Stt.v ⟨0, 0, 0, 0, Sl.none, Sl.none, 0⟩, .bool false] Try.results59 (.cons (.cell (cs := Stt.cs ⟨0, 0, 0, 0, Sl.none, Sl.none, 0⟩) (b := w.heap.size + 1) (off := 0) rfl rfl (q05 x4) Try.underlying36 rfl (by kernel_rfl)) (.cons (.tmp rfl) .nil)) rfl ⟨_, _, false, rfl, zero_good, wb⟩
 have hne1 : ((l.length : Int) != (ql.length : Int)) = false := by simp; omega
 have hne2 : ((l.length : Int)) = (ql.length : Int) := by omega
 have HNE := Kept.mk hne
 rw [show l.length = ql.length from HNE.out]
 clear hne hne1 hne2
 have hlq1 : ((ql.length : Int) != (ql.length : Int)) = false := by simp
 go_wp2_with fail
 refine (HCe.out _ (HR.out.past W1.out)).mono ?_
 rintro en w2 ⟨rfl, b2⟩
 obtain ⟨i0, hi0, hz0, hz1, hz2⟩ := info_parts q2C
 have K0 := Kept.mk (q01 K0.out b2)
 have K1 := Kept.mk (q01 K1.out b2)
 have W2 := Kept.mk (W1.out.trans (b2.mono W1.out.size))
 have RQ := Kept.mk (RQ.out.past b2)
 have S2 : w1.heap.size ≤ w2.heap.size := b2.size
 clear b2 Y0 Y1 F1
 go_wp2_with (at_make; refine wpList_make_full _ rfl _ _ 22 rfl w2.heap.size 3 i0 _ 1 Try.underlying22 hi0 hz0 hz1 .i64 .i64 _ _ n rfl rfl rfl rfl ?b1 ?b2 ?b3 ?_)
 case b1 => rw [hz2]; omega
 case b2 => simp only [maxLen]; omega
 case b3 => exact Nat.le_refl _
 intro w3 hown hgrow
 rw [made_zeros] at hown
 have HO3 : Kept (OwnI w3 w2.heap.size (.slice (some ⟨w2.heap.size, 0, none⟩) n n) (List.replicate n 0)) := ⟨by unfold OwnI; rw [List.length_replicate]; exact hown⟩
 have b3 := below_none hgrow
 have S3 : w2.heap.size + 1 ≤ w3.heap.size := by
  have := hown
  rcases this.2 with ⟨hv, _⟩ | ⟨g, cap, cur, hv, _, hh, _⟩
  ·cases hv
  ·injection hv with hv
   injection hv with hv
   injection hv with hv
   subst hv
   exact (Array.getElem?_eq_some_iff.1 hh).1
 have B3 := Kept.mk b3
 clear hown hgrow b3
 go_wp2_with fail
 obtain ⟨gm, hgm⟩ : ∃ gm, w2.heap.size = gm := ⟨_, rfl⟩
 obtain ⟨g7, hg7⟩ : ∃ g7, w3.heap.size = g7 := ⟨_, rfl⟩
 rw [hgm] at HO3
 simp only [hgm, hg7]
 have HGM := Kept.mk hgm
 have HG7 := Kept.mk hg7
 have hgm7 : gm < g7 := by omega
 have hgm1 : w.heap.size + 2 ≤ gm := by omega
 clear hgm hg7
 go_loopw [8] (fun s8 wr => ∃ (k : Nat) (r0 r1 r2 r3 : Int) (mem : List Int), k ≤ ql.length ∧ s8 = .int .i64 (k : Int) ∧ Kept (N4 r0 ∧ N4 r1 ∧ N4 r2 ∧ N4 r3) ∧ Kept (mem.length = n) ∧ Kept (∀ x ∈ mem, N4 x) ∧
  wr.heap[g7]? = some (.cells (Stt.cs ⟨r0, r1, r2, r3, ⟨some ⟨gm, 0, none⟩, n, n⟩, Sl.none, 0⟩).toArray 36 (0, 0)) ∧ OwnI wr gm (.slice (some ⟨gm, 0, none⟩) n n) mem ∧ Below gm w2 wr) (fun s8 _ => ql.length - (intOf s8).toNat)
 case atStart => exact ⟨0, 0, 0, 0, 0, List.replicate n 0, Nat.zero_le _, rfl, ⟨⟨by decide, by decide⟩, ⟨by decide, by decide⟩, ⟨by decide, by decide⟩, ⟨by decide, by decide⟩⟩, ⟨List.length_replicate ..⟩, ⟨fun x hx => by rw [(List.mem_replicate.1 hx).2]; exact ⟨by decide, by decide⟩⟩, q06 HG7.out.symm, HO3.out.past (q00 _ _), by have := HGM.out; subst this; exact B3.out.trans ((q00 w3 _).mono B3.out.size)⟩
 case round =>
  clear HO3 B3
  obtain ⟨k, r0, r1, r2, r3, mem, hk, rfl, hn4, hml, hmn, hx, ho, hb⟩ := hrel
  have HB := Kept.mk hb
  have HO := Kept.mk ho
  have HX := Kept.mk hx
  have HW := Kept.mk (W2.out.trans (hb.mono (by omega)))
  have K0w := Kept.mk ((hb.block _ (by omega)).trans K0.out)
  have K1w := Kept.mk ((hb.block _ (by omega)).trans K1.out)
  have RQw := Kept.mk (RQ.out.past (by rw [HGM.out]; exact hb))
  have S7 : g7 < wr.heap.size := (Array.getElem?_eq_some_iff.1 hx).1
  clear hb ho hx
  by_cases hlt : k < ql.length
  ·have hki : (k : Int) < (ql.length : Int) := by omega
   have hkl : k < l.length := by have := HNE.out; omega
   obtain ⟨lB, lO, rfl, hlb, hle⟩ := RdI.at_ (HL.out.past HW.out) hkl
   obtain ⟨b, o, rfl, hbb, z0, z1, z2⟩ := RdP.at_ RQw.out hlt
   have HLX := CellsAt.kept (CellsAt.one hle) hlb
   have HPX := q24 K0w.out
   have Z0 := Kept.mk z0
   have Z1 := Kept.mk z1
   have hpo := HQP.out ql[k] (List.getElem_mem hlt)
   clear z0 z1 z2 hle
   go_wp2_with fail
   refine q1E (wr.heap.size) (G := fun _ => True) (ts := [
     .is (Value.pointer (some ⟨w.heap.size, 0, none⟩)),
     .is (Value.int .i64 (p.W)),
     .is (Value.slice ((some ⟨lB, lO, none⟩)) ql.length lC),
     .is (Value.int .i64 ((k : Int))),
     .is (Value.pointer (some ⟨lB, lO + k, none⟩)),
     .is (Value.int .i64 (l[k])),
     .draws (Value.int .i64 (maskW p.W l[k])),
     .is (Value.int .i64 (maskW p.W l[k]))])
    (fin := []) (cs := []) (by kernel_rfl) rfl (by kernel_rfl) (by kernel_rfl)
    ⟨trivial, trivial, trivial, trivial, trivial, trivial, trivial, trivial, trivial⟩ (fun _ _ _ _ => trivial) (by simp) (by simp) trivial
    ⟨?_, ?_, ?_, ?_, ?_, ?_, ?_, ?_, trivial⟩ ?_
   ·intro vals w1 hB _ _
    refine q02 rfl ?_ (q04 rfl)
    kernel_rfl
   ·intro vals w1 hB _ _
    refine q02 rfl ?_ (q04 rfl)
    exact q0A rfl (by kernel_rfl) ((HPX.out w1 hB) 0 _ rfl) Try.underlying3 rfl
   ·intro vals w1 hB _ _
    refine q02 rfl ?_ (q04 rfl)
    kernel_rfl
   ·intro vals w1 hB _ _
    refine q02 rfl ?_ (q04 rfl)
    kernel_rfl
   ·intro vals w1 hB _ _
    refine q02 rfl ?_ (q04 rfl)
    exact exec_index1 (k := k) (n := ql.length) (c := lC) rfl (by kernel_rfl) (by kernel_rfl) Try.underlying22 (by kernel_rfl) (by omega)
   ·intro vals w1 hB _ _
    refine q02 rfl ?_ (q04 rfl)
    exact q0A rfl (by kernel_rfl) ((HLX.out w1 hB) 0 _ rfl) Try.underlying3 rfl
   ·intro vals w1 hB _ _
    refine q12 (f := 73) (args := #[.int .i64 (p.W), .int .i64 (l[k])]) (w1 := w1) rfl (by kernel_rfl) ?_
    refine (HMK.out l[k] w1).mono ?_
    rintro e1 w2 ⟨rfl, rfl⟩
    exact ⟨_, rfl, q18 rfl (Below.refl _ _)⟩
   ·intro vals w1 hB _ _
    refine q02 rfl ?_ (q04 rfl)
    kernel_rfl
   intro vals w5 b5 _ hr
   clear hr
   simp only [fillT, Tell.is, Tell.draws, Act.put, List.setIfInBounds_toArray, List.set_cons_zero, List.set_cons_succ]
   have HB := Kept.mk (HB.out.trans (b5.mono (by omega)))
   have HO := Kept.mk (HO.out.past b5)
   have HX := Kept.mk (q01 HX.out b5)
   have z0 := (b5.cell (p := ⟨b, o + k * 3, none⟩) hbb).trans Z0.out
   have z1 := (b5.cell (p := ⟨b, o + k * 3 + 1, none⟩) hbb).trans Z1.out
   have S5 : wr.heap.size ≤ w5.heap.size := b5.size
   have hmv := HN4.out l[k]
   have Y7 := fun j => cell_of_row w5 g7 j _ _ _ HX.out
   have F7 := fun j => frozen_of_row w5 g7 j _ _ HX.out
   simp only [Stt.cs, Sl.none] at Y7
   have HV := Kept.mk hmv
   clear b5 HLX HPX hmv
   generalize maskW p.W l[k] = mv at *
   have hne7 : gm ≠ g7 := by omega
   have hn4o := hn4.out
   cases hreg : ql[k].reg with
   | true =>
    rw [hreg] at z0
    have hn3 := hpo.2.1 hreg
    have hn0 := hpo.1
    generalize ql[k].n = NN at *
    have : NN = 0 ∨ NN = 1 ∨ NN = 2 ∨ NN = 3 := by omega
    clear hpo hn3 hn0 hreg
    rcases this with rfl | rfl | rfl | rfl
    ·go_wp2_with fail
     exact ⟨⟨k + 1, mv, r1, r2, r3, mem, by omega, by go_num, ⟨⟨HV.out, hn4o.2.1, hn4o.2.2.1, hn4o.2.2.2⟩⟩, hml, hmn, by have x := heap_setCell_same w5 g7 0 _ _ (.int .i64 mv) HX.out; simpa [Stt.cs, Sl.none] using x, q31 HO.out hne7, HB.out.setCell (p := ⟨g7, 0, none⟩) (by show gm ≤ g7; omega) _⟩, by simp [intOf] <;> omega⟩
    ·go_wp2_with fail
     exact ⟨⟨k + 1, r0, mv, r2, r3, mem, by omega, by go_num, ⟨⟨hn4o.1, HV.out, hn4o.2.2.1, hn4o.2.2.2⟩⟩, hml, hmn, by have x := heap_setCell_same w5 g7 1 _ _ (.int .i64 mv) HX.out; simpa [Stt.cs, Sl.none] using x, q31 HO.out hne7, HB.out.setCell (p := ⟨g7, 1, none⟩) (by show gm ≤ g7; omega) _⟩, by simp [intOf] <;> omega⟩
    ·go_wp2_with fail
     exact ⟨⟨k + 1, r0, r1, mv, r3, mem, by omega, by go_num, ⟨⟨hn4o.1, hn4o.2.1, HV.out, hn4o.2.2.2⟩⟩, hml, hmn, by have x := heap_setCell_same w5 g7 2 _ _ (.int .i64 mv) HX.out; simpa [Stt.cs, Sl.none] using x, q31 HO.out hne7, HB.out.setCell (p := ⟨g7, 2, none⟩) (by show gm ≤ g7; omega) _⟩, by simp [intOf] <;> omega⟩
    ·go_wp2_with fail
     exact ⟨⟨k + 1, r0, r1, r2, mv, mem, by omega, by go_num, ⟨⟨hn4o.1, hn4o.2.1, hn4o.2.2.1, HV.out⟩⟩, hml, hmn, by have x := heap_setCell_same w5 g7 3 _ _ (.int .i64 mv) HX.out; simpa [Stt.cs, Sl.none] using x, q31 HO.out hne7, HB.out.setCell (p := ⟨g7, 3, none⟩) (by show gm ≤ g7; omega) _⟩, by simp [intOf] <;> omega⟩
   | false =>
    rw [hreg] at z0
    have hn3 := hpo.2.2 hreg
    have hn0 := hpo.1
    obtain ⟨t, ht⟩ := Int.eq_ofNat_of_zero_le hn0
    rw [ht] at z1
    have htm : t < mem.length := by have := hml.out; omega
    have htn : (t : Int) < (n : Int) := by omega
    obtain ⟨g', e', hB', -, hc, hfz, hset⟩ := OwnI.elS HO.out htm mv
    injection e' with e'
    injection e' with e'
    subst e'
    have HSET := Kept.mk hset
    clear hpo hn3 hn0 hreg hset
    go_wp2_with fail
    go_region
    go_wp2_with fail
    exact ⟨⟨k + 1, r0, r1, r2, r3, mem.set t mv, by omega, by go_num, hn4, ⟨by rw [List.length_set]; exact hml.out⟩, ⟨fun x hx => by
     rcases List.mem_or_eq_of_mem_set hx with hx | hx
     ·exact hmn.out x hx
     ·rw [hx]; exact HV.out⟩, (heap_setCell_other w5 ⟨gm, t, none⟩ g7 _ (Ne.symm hne7)).trans HX.out, HSET.out, (HB.out.setCell (p := ⟨gm, t, none⟩) (Nat.le_refl _) _).drew⟩, by simp [intOf] <;> omega⟩
  ·have hki : ¬ (k : Int) < (ql.length : Int) := by omega
   have Y7 := fun j => cell_of_row wr g7 j _ _ _ HX.out
   have Y1 := fun j => cell_of_row wr (w.heap.size + 1) j _ _ _ K1w.out
   have F1 := fun j => frozen_of_row wr (w.heap.size + 1) j _ _ K1w.out
   simp only [Stt.cs, Sl.none] at Y7
   go_wp2_with fail
   have hg := grown7 wr (w.heap.size + 1) ⟨r0, r1, r2, r3, ⟨some ⟨gm, 0, none⟩, n, n⟩, Sl.none, 0⟩
   have wb := below7 (g := w.heap.size + 1) ⟨r0, r1, r2, r3, ⟨some ⟨gm, 0, none⟩, n, n⟩, Sl.none, 0⟩ HW.out (by omega)
   have x4 := stt_set ⟨0, 0, 0, 0, Sl.none, Sl.none, 0⟩ ⟨r0, r1, r2, r3, ⟨some ⟨gm, 0, none⟩, n, n⟩, Sl.none, 0⟩ K1w.out
   have om : OwnI _ gm (.slice (some ⟨gm, 0, none⟩) n n) mem := own_grown HO.out hg (by omega)
   dsimp only [Sl.none] at wb x4 om
   refine q0C _ [Stt.v ⟨r0, r1, r2, r3, ⟨some ⟨gm, 0, none⟩, n, n⟩, Sl.none, 0⟩, .bool true] Try.results59 (.cons (.cell (cs := Stt.cs ⟨r0, r1, r2, r3, ⟨some ⟨gm, 0, none⟩, n, n⟩, Sl.none, 0⟩) (b := w.heap.size + 1) (off := 0) rfl rfl (q05 x4) Try.underlying36 rfl (by kernel_rfl)) (.cons (.tmp rfl) .nil)) rfl ⟨⟨r0, r1, r2, r3, ⟨some ⟨gm, 0, none⟩, n, n⟩, Sl.none, 0⟩, ⟨r0, r1, r2, r3, mem, [], 0⟩, true, rfl, ⟨⟨rfl, rfl, rfl, rfl, OwnI.is (s := ⟨some ⟨gm, 0, none⟩, n, n⟩) om, RdIs.nil, rfl⟩, Tag.of_own om, Tag.zero, ⟨hn4.out.1, hn4.out.2.1, hn4.out.2.2.1, hn4.out.2.2.2, by have := hml.out; show mem.length ≤ 1000; omega, hmn.out, rfl, rfl⟩⟩, wb⟩
end
section
noncomputable def regS (id : Nat) : Code := (Try.f24.body.bind (findRegion id)).getD .skip
theorem exec_make {P : Program} {w : World} {n : Nat} {t : TypeId} (hi : (P.info? 3).map (fun i => (i.zero, i.size, i.bytes)) = some (some (.int .i64 0), 1, 8)) (ht : P.underlying t = some (.slice 3)) (hn : n ≤ 1000) :
  ∃ w' : World, (∀ {o : Oper} {ev : Operand → Value} {l c : Operand}, o.op = .makeSlice t l c → ev l = .int .i64 (n : Int) → ev c = .int .i64 (n : Int) → (execOp ev o).run P w = .ok (.value (.slice (some ⟨w.heap.size, 0, none⟩) n n)) w') ∧ OwnI w' w.heap.size (.slice (some ⟨w.heap.size, 0, none⟩) n n) (List.replicate n 0) ∧ w.grownBy w' none := by
 obtain ⟨i0, hi0, hz0, hz1, hz2⟩ := info_parts hi
 obtain ⟨w', hrun, h1, h2⟩ := run_make_full (P := P) w w.heap.size t 3 i0 _ 1 ht hi0 hz0 hz1 .i64 .i64 n (by rw [hz2]; omega) (by simp only [maxLen]; omega) (Nat.le_refl _)
 refine ⟨w', fun ho hl hc => ?_, ?_, h2⟩
 ·unfold execOp
  simp [ho, hl, hc, hrun, Result.andThen]
 ·unfold OwnI
  rw [List.length_replicate]
  rw [← made_zeros]
  simpa [Value.cells] using h1
structure MZ (w0 : World) (N0 n : Nat) (done : Nat → Bool) (vals : Nat → Value) (w : World) : Prop where
 hn0 : w0.heap.size = N0
 b : Below N0 w0 w
 x : done 2 = true → ∃ g, vals 2 = .slice (some ⟨g, 0, none⟩) n n ∧ N0 ≤ g ∧ OwnI w N0 (vals 2) (List.replicate n 0)
 y : done 5 = true → ∃ g, vals 5 = .slice (some ⟨g, 0, none⟩) n n ∧ N0 ≤ g ∧ OwnI w N0 (vals 5) (List.replicate n 0)
 ap : done 2 = true → done 5 = true → vals 2 ≠ vals 5
 mx : done 6 = true → done 2 = true ∧ vals 6 = vals 2
 my : done 7 = true → done 5 = true ∧ vals 7 = vals 5
section
variable {w0 w : World} {N0 n : Nat} {done : Nat → Bool} {vals : Nat → Value}
theorem MZ.start (hN : w0.heap.size = N0) : MZ w0 N0 n (fun _ => false) (fun _ => undef) w0.drew := ⟨hN, (Below.refl _ _).drew, fun h => (by cases h), fun h => (by cases h), fun h => (by cases h), fun h => (by cases h), fun h => (by cases h)⟩
theorem MZ.other {i : Nat} {v : Value} {w' : World} (h : MZ w0 N0 n done vals w) (h2 : ¬ 2 = i) (h5 : ¬ 5 = i) (h6 : ¬ 6 = i) (h7 : ¬ 7 = i) (hb : Below w.heap.size w w') :
  MZ w0 N0 n (fun j => done j || j == i) (fun j => if j = i then v else vals j) w' := by
 have e : ∀ k, ¬ k = i → (done k || k == i) = done k := fun k hk => by rw [show (k == i) = false by simpa using hk, Bool.or_false]
 have hs : N0 ≤ w.heap.size := by have := h.b.size; have := h.hn0; omega
 refine ⟨h.hn0, h.b.trans (hb.mono hs), fun hd => ?_, fun hd => ?_, fun g2 g5 => ?_, fun hd => ?_, fun hd => ?_⟩
 ·simp only [e 2 h2] at hd
  obtain ⟨g, a, b, c⟩ := h.x hd
  simp only [if_neg h2]
  exact ⟨g, a, b, c.past hb⟩
 ·simp only [e 5 h5] at hd
  obtain ⟨g, a, b, c⟩ := h.y hd
  simp only [if_neg h5]
  exact ⟨g, a, b, c.past hb⟩
 ·simp only [e 2 h2] at g2
  simp only [e 5 h5] at g5
  simp only [if_neg h2, if_neg h5]
  exact h.ap g2 g5
 ·simp only [e 6 h6] at hd
  simp only [e 2 h2, if_neg h2, if_neg h6]
  exact h.mx hd
 ·simp only [e 7 h7] at hd
  simp only [e 5 h5, if_neg h5, if_neg h7]
  exact h.my hd
theorem MZ.mk2 {w' : World} (h : MZ w0 N0 n done vals w) (hi : done 2 = false) (ho : OwnI w' w.heap.size (.slice (some ⟨w.heap.size, 0, none⟩) n n) (List.replicate n 0)) (hg : w.grownBy w' none) :
  MZ w0 N0 n (fun j => done j || j == 2) (fun j => if j = 2 then .slice (some ⟨w.heap.size, 0, none⟩) n n else vals j) w' := by
 have hb := below_none hg
 have hs : N0 ≤ w.heap.size := by have := h.b.size; have := h.hn0; omega
 refine ⟨h.hn0, h.b.trans (hb.mono hs), fun hd => ?_, fun hd => ?_, fun h2 h5 => ?_, fun hd => ?_, fun hd => ?_⟩
 ·exact ⟨w.heap.size, rfl, hs, ho.lower hs⟩
 ·obtain ⟨g, e, h1, h2⟩ := h.y (by simpa using hd)
  exact ⟨g, e, h1, h2.past hb⟩
 ·obtain ⟨g, e, h1, h3⟩ := h.y (by simpa using h5)
  have hlt := (World.ownsRow.lt h3 g (by rw [e]; rfl)).2
  show (if 2 = 2 then _ else vals 2) ≠ (if 5 = 2 then _ else vals 5)
  simp only [if_true, show ¬ (5 = 2) by decide, if_false]
  rw [e]
  intro he
  injection he with he
  injection he with he
  injection he with he
  omega
 ·have h6 : done 6 = true := by simpa using hd
  obtain ⟨a, b⟩ := h.mx h6
  rw [hi] at a
  cases a
 ·have h7 : done 7 = true := by simpa using hd
  obtain ⟨a, b⟩ := h.my h7
  exact ⟨by show (done 5 || 5 == 2) = true; rw [a]; rfl, b⟩
theorem MZ.mv6 (h : MZ w0 N0 n done vals w) (hi : done 6 = false) (hj : done 2 = true) : MZ w0 N0 n (fun j => done j || j == 6) (fun j => if j = 6 then vals 2 else vals j) w := by
 refine ⟨h.hn0, h.b, fun hd => h.x (by simpa using hd), fun hd => h.y (by simpa using hd), fun h2 h5 => h.ap (by simpa using h2) (by simpa using h5), fun hd => ?_, fun hd => ?_⟩
 ·exact ⟨by show (done 2 || 2 == 6) = true; rw [hj]; rfl, rfl⟩
 ·obtain ⟨a, b⟩ := h.my (by simpa using hd)
  exact ⟨by show (done 5 || 5 == 6) = true; rw [a]; rfl, b⟩
theorem MZ.mk5 {w' : World} (h : MZ w0 N0 n done vals w) (hi : done 5 = false) (ho : OwnI w' w.heap.size (.slice (some ⟨w.heap.size, 0, none⟩) n n) (List.replicate n 0)) (hg : w.grownBy w' none) :
  MZ w0 N0 n (fun j => done j || j == 5) (fun j => if j = 5 then .slice (some ⟨w.heap.size, 0, none⟩) n n else vals j) w' := by
 have hb := below_none hg
 have hs : N0 ≤ w.heap.size := by have := h.b.size; have := h.hn0; omega
 refine ⟨h.hn0, h.b.trans (hb.mono hs), fun hd => ?_, fun hd => ?_, fun h2 h5 => ?_, fun hd => ?_, fun hd => ?_⟩
 ·obtain ⟨g, e, h1, h2⟩ := h.x (by simpa using hd)
  exact ⟨g, e, h1, h2.past hb⟩
 ·exact ⟨w.heap.size, rfl, hs, ho.lower hs⟩
 ·obtain ⟨g, e, h1, h3⟩ := h.x (by simpa using h2)
  have hlt := (World.ownsRow.lt h3 g (by rw [e]; rfl)).2
  show (if 2 = 5 then _ else vals 2) ≠ (if 5 = 5 then _ else vals 5)
  simp only [if_true, show ¬ (2 = 5) by decide, if_false]
  rw [e]
  intro he
  injection he with he
  injection he with he
  injection he with he
  omega
 ·have h6 : done 6 = true := by simpa using hd
  obtain ⟨a, b⟩ := h.mx h6
  exact ⟨by show (done 2 || 2 == 5) = true; rw [a]; rfl, b⟩
 ·have h7 : done 7 = true := by simpa using hd
  obtain ⟨a, b⟩ := h.my h7
  rw [hi] at a
  cases a
theorem MZ.mv7 (h : MZ w0 N0 n done vals w) (hi : done 7 = false) (hj : done 5 = true) : MZ w0 N0 n (fun j => done j || j == 7) (fun j => if j = 7 then vals 5 else vals j) w := by
 refine ⟨h.hn0, h.b, fun hd => h.x (by simpa using hd), fun hd => h.y (by simpa using hd), fun h2 h5 => h.ap (by simpa using h2) (by simpa using h5), fun hd => ?_, fun hd => ?_⟩
 ·obtain ⟨a, b⟩ := h.mx (by simpa using hd)
  exact ⟨by show (done 2 || 2 == 7) = true; rw [a]; rfl, b⟩
 ·exact ⟨by show (done 5 || 5 == 7) = true; rw [hj]; rfl, rfl⟩
end
set_option maxRecDepth 100000 in
set_option maxHeartbeats 8000000 in
theorem states_make {z0 z1 z2 z3 z4 z5 z6 z7 z9 z10 z11 z12 z13 z14 z15 z16 z17 z18 z19 z20 z21 z22 z23 z24 z25 z26 z27 z28 z29 z30 z31 z32 z33 z34 z35 z36 z37 z38 z39 z40 z41 z42 z43 z44 z45 z46 z47 z48 z49 z50 z51 z52 z53 z54 z55 z56 z57 z58 z59 z60 z61 z62 z63 z64 z65 z66 z67 z68 z69 z70 z71 z72 z73 z74 z75 z76 z77 z78 z79 : Value} (w0 : World) (N0 n qC : Nat) (qA : Option Addr) (hN : w0.heap.size = N0) (hn : n ≤ 1000) (Q : Exit → Act → World → Prop)
  (hQ : ∀ (u18 u19 u20 u21 u22 u23 : Value) (w' : World) (gx gy : Nat), gx ≠ gy → OwnI w' N0 (.slice (some ⟨gx, 0, none⟩) n n) (List.replicate n 0) → OwnI w' N0 (.slice (some ⟨gy, 0, none⟩) n n) (List.replicate n 0) → Below N0 w0 w' → Q .normal ⟨#[z0, z1, z2, z3, z4, z5, z6, z7, .slice qA n qC, .slice (some ⟨gx, 0, none⟩) n n, .slice (some ⟨gy, 0, none⟩) n n, z11, z12, z13, z14, z15, z16, z17, u18, u19, u20, u21, u22, u23, z24, z25, z26, z27, z28, z29, z30, z31, z32, z33, z34, z35, z36, z37, z38, z39, z40, z41, z42, z43, z44, z45, z46, z47, z48, z49, z50, z51, z52, z53, z54, z55, z56, z57, z58, z59, z60, z61, z62, z63, z64, z65, z66, z67, z68, z69, z70, z71, z72, z73, z74, z75, z76, z77, z78, z79], []⟩ w') :
  Code.wp Try.prog (regS 2) Q ⟨#[z0, z1, z2, z3, z4, z5, z6, z7, .slice qA n qC, z9, z10, z11, z12, z13, z14, z15, z16, z17, z18, z19, z20, z21, z22, z23, z24, z25, z26, z27, z28, z29, z30, z31, z32, z33, z34, z35, z36, z37, z38, z39, z40, z41, z42, z43, z44, z45, z46, z47, z48, z49, z50, z51, z52, z53, z54, z55, z56, z57, z58, z59, z60, z61, z62, z63, z64, z65, z66, z67, z68, z69, z70, z71, z72, z73, z74, z75, z76, z77, z78, z79], []⟩ w0 := by
 conv => arg 2; whnf
 refine q19 (fun done vals w => MZ w0 N0 n done vals w) (N0) (G := fun _ => True) (ts := [
   .is (Value.slice qA n qC),
   .is (Value.int .i64 ((n : Int))),
   .turns (fun v _ => True) (fun _ _ => True),
   .is (Value.slice qA n qC),
   .is (Value.int .i64 ((n : Int))),
   .turns (fun v _ => True) (fun _ _ => True),
   .turns (fun v _ => True) (fun _ _ => True),
   .turns (fun v _ => True) (fun _ _ => True)])
  (fin := []) (cs := [(2, 5), (2, 6), (2, 7), (5, 2), (5, 6), (5, 7), (6, 2), (6, 5), (6, 7), (7, 2), (7, 5), (7, 6)]) ?z0 ?zg (by kernel_rfl) rfl (by kernel_rfl) (by kernel_rfl)
  ⟨trivial, trivial, q07 _, trivial, trivial, q07 _, q07 _, q07 _, trivial⟩ (fun _ _ _ _ => trivial) ?cs (by omega) trivial
  ⟨?_, ?_, ?_, ?_, ?_, ?_, ?_, ?_, trivial⟩ ?_
 case z0 =>
  show _
  exact MZ.start hN
 case zg =>
  intro i done vals w1 w2 v hti hni hZ hb
  have hz := hZ
  ·skip
   have hz : MZ w0 N0 n done vals w1 := hz
   have h2 : ¬ 2 = i := by rintro rfl; cases hti
   have h5 : ¬ 5 = i := by rintro rfl; cases hti
   have h6 : ¬ 6 = i := by rintro rfl; cases hti
   have h7 : ¬ 7 = i := by rintro rfl; cases hti
   exact hz.other h2 h5 h6 h7 hb
 case cs =>
  intro p hp v w1 w2 hG hR hE
  simp only [List.mem_cons, List.not_mem_nil, or_false] at hp
  rcases hp with rfl | rfl | rfl | rfl | rfl | rfl | rfl | rfl | rfl | rfl | rfl | rfl
  ·exact hR
  ·exact hR
  ·exact hR
  ·exact hR
  ·exact hR
  ·exact hR
  ·exact hR
  ·exact hR
  ·exact hR
  ·exact hR
  ·exact hR
  ·exact hR
 ·intro done vals w1 hB _ hZ hni hcl hdn _
  refine q02 rfl ?_ ⟨q04 rfl, noturn rfl⟩
  kernel_rfl
 ·intro done vals w1 hB _ hZ hni hcl hdn _
  refine q02 rfl ?_ ⟨q04 rfl, noturn rfl⟩
  kernel_rfl
 ·intro done vals w1 hB _ hZ hni hcl hdn _
  have hz : MZ w0 N0 n done vals w1 := hZ
  obtain ⟨w2, hr2, ho2, hg2⟩ := exec_make (P := Try.prog) (w := w1) (n := n) q2C Try.underlying22 (by omega)
  refine q1D (v := .slice (some ⟨w1.heap.size, 0, none⟩) n n) (w' := w2) rfl (hr2 rfl (by kernel_rfl) (by kernel_rfl)) ⟨q16 rfl trivial (hB.trans ((below_none hg2).mono (by have := hB.size; omega))) trivial hg2.size trivial, fun _ => ?_⟩
  exact hz.mk2 hni ho2 hg2
 ·intro done vals w1 hB _ hZ hni hcl hdn _
  refine q02 rfl ?_ ⟨q04 rfl, noturn rfl⟩
  kernel_rfl
 ·intro done vals w1 hB _ hZ hni hcl hdn _
  refine q02 rfl ?_ ⟨q04 rfl, noturn rfl⟩
  kernel_rfl
 ·intro done vals w1 hB _ hZ hni hcl hdn _
  have hz : MZ w0 N0 n done vals w1 := hZ
  obtain ⟨w2, hr2, ho2, hg2⟩ := exec_make (P := Try.prog) (w := w1) (n := n) q2C Try.underlying22 (by omega)
  refine q1D (v := .slice (some ⟨w1.heap.size, 0, none⟩) n n) (w' := w2) rfl (hr2 rfl (by kernel_rfl) (by kernel_rfl)) ⟨q16 rfl trivial (hB.trans ((below_none hg2).mono (by have := hB.size; omega))) trivial hg2.size trivial, fun _ => ?_⟩
  exact hz.mk5 hni ho2 hg2
 ·intro done vals w1 hB _ hZ hni hcl hdn _
  have hz : MZ w0 N0 n done vals w1 := hZ
  have hj := hdn 2 (by kernel_rfl)
  refine q02 (v := vals 2) rfl (by kernel_rfl) ⟨q16 rfl trivial hB trivial (Nat.le_refl _) trivial, fun _ => hz.mv6 hni hj⟩
 ·intro done vals w1 hB _ hZ hni hcl hdn _
  have hz : MZ w0 N0 n done vals w1 := hZ
  have hj := hdn 5 (by kernel_rfl)
  refine q02 (v := vals 5) rfl (by kernel_rfl) ⟨q16 rfl trivial hB trivial (Nat.le_refl _) trivial, fun _ => hz.mv7 hni hj⟩
 intro done vals w9 b9 _ hall hZ hr
 have hz : MZ w0 N0 n done vals w9 := hZ
 obtain ⟨gx, ex, hgx, ox⟩ := hz.x (hall 2 (by simp))
 obtain ⟨gy, ey, hgy, oy⟩ := hz.y (hall 5 (by simp))
 have hap := hz.ap (hall 2 (by simp)) (hall 5 (by simp))
 have h6 := (hz.mx (hall 6 (by simp))).2
 have h7 := (hz.my (hall 7 (by simp))).2
 clear hr
 simp only [fillT, Tell.is, Tell.turns, Act.put, List.setIfInBounds_toArray, List.set_cons_zero, List.set_cons_succ]
 rw [h6, h7, ex, ey]
 rw [ex] at ox hap
 rw [ey] at oy hap
 exact hQ _ _ _ _ _ _ w9 gx gy (fun e => hap (by rw [e])) ox oy b9
end
end Go.Proofs.Ytchldbkjapnlcaa
