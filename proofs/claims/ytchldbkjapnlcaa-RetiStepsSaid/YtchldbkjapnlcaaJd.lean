/- Machines in memory: what a Conf's cells hold, what they read as. The document's own answer, layer 10: a value, whether a fence stands ahead, what is told of an entry. The document's own answer, layer 11: what a load takes, who is wrong. The document's own answer, layers 15 and 16: what may go on. The document's own answer, layer 14: how many ways there are to fetch. The document's own answer, layer 15: an entry that goes somewhere. The document's own answer, layer 12: what returns come to, what is pushed. The document's own answer, layer 15: words for what an entry's doing leaves. A machine as a row of numbers; what the machine answers that commits, that fetches. -/
import Derived.Test.YtchldbkjapnlcaaJb
import Derived.Test.YtchldbkjapnlcaaJc
import Derived.BigQuiet
set_option linter.unusedVariables false
set_option linter.unusedSimpArgs false
namespace Go.Proofs.Ytchldbkjapnlcaa
open Go.RowKit
section
structure Sl where
 A : Option Addr
 n : Nat
 c : Nat
def Sl.none : Sl := ⟨Option.none, 0, 0⟩
structure Stt where
 r0 : Int
 r1 : Int
 r2 : Int
 r3 : Int
 mem : Sl
 stack : Sl
 pc : Int
def Stt.cs (s : Stt) : List Value := [.int .i64 s.r0, .int .i64 s.r1, .int .i64 s.r2, .int .i64 s.r3, .slice s.mem.A s.mem.n s.mem.c, .slice s.stack.A s.stack.n s.stack.c, .int .i64 s.pc]
@[go_sem] def Stt.v (s : Stt) : Value := .agg #[.int .i64 s.r0, .int .i64 s.r1, .int .i64 s.r2, .int .i64 s.r3, .slice s.mem.A s.mem.n s.mem.c, .slice s.stack.A s.stack.n s.stack.c, .int .i64 s.pc]
structure Cnf where
 st : Stt
 buf : Sl
 rsb : Sl
 fin : Int
def Cnf.cs (c : Cnf) : List Value := [.int .i64 c.st.r0, .int .i64 c.st.r1, .int .i64 c.st.r2, .int .i64 c.st.r3, .slice c.st.mem.A c.st.mem.n c.st.mem.c, .slice c.st.stack.A c.st.stack.n c.st.stack.c, .int .i64 c.st.pc, .slice c.buf.A c.buf.n c.buf.c, .slice c.rsb.A c.rsb.n c.rsb.c, .int .i64 c.fin]
@[go_sem] def Cnf.v (c : Cnf) : Value := .agg #[.int .i64 c.st.r0, .int .i64 c.st.r1, .int .i64 c.st.r2, .int .i64 c.st.r3, .slice c.st.mem.A c.st.mem.n c.st.mem.c, .slice c.st.stack.A c.st.stack.n c.st.stack.c, .int .i64 c.st.pc, .slice c.buf.A c.buf.n c.buf.c, .slice c.rsb.A c.rsb.n c.rsb.c, .int .i64 c.fin]
def Cnf.zero : Cnf := ⟨⟨0, 0, 0, 0, Sl.none, Sl.none, 0⟩, Sl.none, Sl.none, 0⟩
structure State where
 r0 : Int
 r1 : Int
 r2 : Int
 r3 : Int
 mem : List Int
 stack : List Int
 pc : Int
 deriving DecidableEq
structure Conf where
 st : State
 buf : List Ent
 rsb : List Int
 fin : Int
 deriving DecidableEq
def Conf.zero : Conf := ⟨⟨0, 0, 0, 0, [], [], 0⟩, [], [], 0⟩
structure RdIs (w : World) (s : Sl) (l : List Int) : Prop where
 n : s.n = l.length
 c : s.n ≤ s.c
 r : RdI w s.A l
structure RdEs (w : World) (s : Sl) (l : List Ent) : Prop where
 n : s.n = l.length
 c : s.n ≤ s.c
 r : RdE w s.A l
theorem RdIs.past {w w' : World} {s : Sl} {l : List Int} (h : RdIs w s l) (hb : Below w.heap.size w w') : RdIs w' s l := ⟨h.n, h.c, h.r.past hb⟩
theorem RdEs.past {w w' : World} {s : Sl} {l : List Ent} (h : RdEs w s l) (hb : Below w.heap.size w w') : RdEs w' s l := ⟨h.n, h.c, h.r.past hb⟩
theorem RdIs.nil {w : World} : RdIs w Sl.none [] := ⟨rfl, Nat.le_refl _, Reads.none_⟩
theorem RdEs.nil {w : World} : RdEs w Sl.none [] := ⟨rfl, Nat.le_refl _, Reads.none_⟩
structure StIs (w : World) (c : Stt) (m : State) : Prop where
 r0 : c.r0 = m.r0
 r1 : c.r1 = m.r1
 r2 : c.r2 = m.r2
 r3 : c.r3 = m.r3
 mem : RdIs w c.mem m.mem
 stack : RdIs w c.stack m.stack
 pc : c.pc = m.pc
structure CfIs (w : World) (c : Cnf) (m : Conf) : Prop where
 st : StIs w c.st m.st
 buf : RdEs w c.buf m.buf
 rsb : RdIs w c.rsb m.rsb
 fin : c.fin = m.fin
theorem StIs.past {w w' : World} {c : Stt} {m : State} (h : StIs w c m) (hb : Below w.heap.size w w') : StIs w' c m := ⟨h.r0, h.r1, h.r2, h.r3, h.mem.past hb, h.stack.past hb, h.pc⟩
theorem CfIs.past {w w' : World} {c : Cnf} {m : Conf} (h : CfIs w c m) (hb : Below w.heap.size w w') : CfIs w' c m := ⟨h.st.past hb, h.buf.past hb, h.rsb.past hb, h.fin⟩
structure StOwn (w : World) (B : Nat) (c : Stt) (m : State) : Prop where
 r0 : c.r0 = m.r0
 r1 : c.r1 = m.r1
 r2 : c.r2 = m.r2
 r3 : c.r3 = m.r3
 mem : OwnI w B (.slice c.mem.A c.mem.n c.mem.c) m.mem
 stack : OwnI w B (.slice c.stack.A c.stack.n c.stack.c) m.stack
 pc : c.pc = m.pc
 dj : Dj (.slice c.mem.A c.mem.n c.mem.c) (.slice c.stack.A c.stack.n c.stack.c)
structure CfOwn (w : World) (B : Nat) (c : Cnf) (m : Conf) : Prop where
 st : StOwn w B c.st m.st
 buf : OwnE w B (.slice c.buf.A c.buf.n c.buf.c) m.buf
 rsb : OwnI w B (.slice c.rsb.A c.rsb.n c.rsb.c) m.rsb
 fin : c.fin = m.fin
 djb : Dj c.st.v (.slice c.buf.A c.buf.n c.buf.c)
 djq : Dj c.st.v (.slice c.rsb.A c.rsb.n c.rsb.c)
 djx : Dj (.slice c.buf.A c.buf.n c.buf.c) (.slice c.rsb.A c.rsb.n c.rsb.c)
theorem blocks_st (c : Stt) (k : Nat) : k ∈ blocksOf c.v ↔ k ∈ blocksOf (.slice c.mem.A c.mem.n c.mem.c) ∨ k ∈ blocksOf (.slice c.stack.A c.stack.n c.stack.c) := by
 simp [Stt.v, blocksOf, List.flatMap]
theorem OwnI.is {w : World} {B : Nat} {s : Sl} {l : List Int} (h : OwnI w B (.slice s.A s.n s.c) l) : RdIs w s l := by
 obtain ⟨A, c, e, hc, hr⟩ := h.shape
 injection e with e1 e2 e3
 exact ⟨e2, by omega, by rw [e1]; exact hr⟩
theorem OwnE.is {w : World} {B : Nat} {s : Sl} {l : List Ent} (h : OwnE w B (.slice s.A s.n s.c) l) : RdEs w s l := by
 obtain ⟨A, c, e, hc, hr⟩ := h.shape
 injection e with e1 e2 e3
 exact ⟨e2, by omega, by rw [e1]; exact hr⟩
theorem StOwn.is {w : World} {B : Nat} {c : Stt} {m : State} (h : StOwn w B c m) : StIs w c m := ⟨h.r0, h.r1, h.r2, h.r3, h.mem.is, h.stack.is, h.pc⟩
theorem CfOwn.is {w : World} {B : Nat} {c : Cnf} {m : Conf} (h : CfOwn w B c m) : CfIs w c m := ⟨h.st.is, h.buf.is, h.rsb.is, h.fin⟩
theorem StOwn.past {w w' : World} {B : Nat} {c : Stt} {m : State} (h : StOwn w B c m) (hb : Below w.heap.size w w') : StOwn w' B c m := ⟨h.r0, h.r1, h.r2, h.r3, h.mem.past hb, h.stack.past hb, h.pc, h.dj⟩
theorem CfOwn.past {w w' : World} {B : Nat} {c : Cnf} {m : Conf} (h : CfOwn w B c m) (hb : Below w.heap.size w w') : CfOwn w' B c m := ⟨h.st.past hb, h.buf.past hb, h.rsb.past hb, h.fin, h.djb, h.djq, h.djx⟩
theorem StOwn.lower {w : World} {B B' : Nat} {c : Stt} {m : State} (h : StOwn w B c m) (hb : B' ≤ B) : StOwn w B' c m := ⟨h.r0, h.r1, h.r2, h.r3, h.mem.lower hb, h.stack.lower hb, h.pc, h.dj⟩
theorem CfOwn.lower {w : World} {B B' : Nat} {c : Cnf} {m : Conf} (h : CfOwn w B c m) (hb : B' ≤ B) : CfOwn w B' c m := ⟨h.st.lower hb, h.buf.lower hb, h.rsb.lower hb, h.fin, h.djb, h.djq, h.djx⟩
theorem StOwn.far {w : World} {B : Nat} {c : Stt} {m : State} (h : StOwn w B c m) {p : Addr} (hp : p.block < B) (u : Value) : StOwn (w.setCell p u) B c m := ⟨h.r0, h.r1, h.r2, h.r3, h.mem.far hp u, h.stack.far hp u, h.pc, h.dj⟩
theorem CfOwn.far {w : World} {B : Nat} {c : Cnf} {m : Conf} (h : CfOwn w B c m) {p : Addr} (hp : p.block < B) (u : Value) : CfOwn (w.setCell p u) B c m := ⟨h.st.far hp u, OwnE.far h.buf hp u, OwnI.far h.rsb hp u, h.fin, h.djb, h.djq, h.djx⟩
theorem OwnI.sl {w : World} {B : Nat} {v : Value} {l : List Int} (h : OwnI w B v l) : ∃ s : Sl, v = .slice s.A s.n s.c ∧ OwnI w B (.slice s.A s.n s.c) l := by
 obtain ⟨A, c, rfl, _, _⟩ := h.shape
 exact ⟨⟨A, l.length, c⟩, rfl, h⟩
theorem OwnE.sl {w : World} {B : Nat} {v : Value} {l : List Ent} (h : OwnE w B v l) : ∃ s : Sl, v = .slice s.A s.n s.c ∧ OwnE w B (.slice s.A s.n s.c) l := by
 obtain ⟨A, c, rfl, _, _⟩ := h.shape
 exact ⟨⟨A, l.length, c⟩, rfl, h⟩
theorem final_any (c : Cnf) (w : World) : Calls Try.prog 51 #[c.v] w fun en w' => en = .returned (.bool (decide (c.fin ≠ 0))) ∧ Below w.heap.size w w' := by
 obtain ⟨⟨r0, r1, r2, r3, ⟨mA, mN, mC⟩, ⟨sA, sN, sC⟩, pc⟩, ⟨bA, bN, bC⟩, ⟨qA, qN, qC⟩, fin⟩ := c
 by_cases h : fin = 0
 ·subst h
  go_enter Try.func51, Try.ntmps51
  go_wp2_with fail
  go_ret
  exact ⟨rfl, by go_grown⟩
 ·have hb : (fin != 0) = true := by simp [h]
  go_enter Try.func51, Try.ntmps51
  go_wp2_with fail
  go_ret
  exact ⟨by simp [h], by go_grown⟩
end
section
def valOf (W : Int) (il : List Inst) (a b c d : Int) (l : List Ent) (i : Int) (vr : Bool) (vn : Int) : Int × Bool := if vr then regOf il a b c d l i vn else (maskW W vn, true)
set_option maxRecDepth 100000 in
set_option maxHeartbeats 2000000 in
theorem val_any (p : Prg) (il : List Inst) (r0 r1 r2 r3 : Int) (A : Option Addr) (c : Nat) (l : List Ent) (i : Int) (vr : Bool) (vn : Int) (w : World) (hp : PIs w p il) (hW : p.W = 1 ∨ p.W = 2) (hl : RdE w A l) (hln : l.length ≤ 1000000) :
  Calls Try.prog 95 #[p.v, .agg #[.int .i64 r0, .int .i64 r1, .int .i64 r2, .int .i64 r3], .slice A l.length c, .int .i64 i, .agg #[.bool vr, .int .i64 vn]] w fun en w' =>
   en = .returned (.tuple #[.int .i64 (valOf p.W il r0 r1 r2 r3 l i vr vn).1, .bool (valOf p.W il r0 r1 r2 r3 l i vr vn).2]) ∧ Below w.heap.size w w' := by
 have HP := Kept.mk hp
 have HL := Kept.mk hl
 have HW := Kept.mk hW
 clear hp hl hW
 unfold valOf
 cases vr with
 | true =>
  rw [if_pos rfl]
  go_enter Try.func95, Try.ntmps95
  go_wp2_with fail
  have HB := Kept.mk (((q00 w (.cells p.cs.toArray 33)).alloc (by simp) (.cells #[.int .i64 r0, .int .i64 r1, .int .i64 r2, .int .i64 r3] 28)).alloc (by simp; omega) (.cells #[.bool true, .int .i64 vn] 51))
  refine (reg_any p il r0 r1 r2 r3 A c l i vn _ (HP.out.past HB.out) (HL.out.past HB.out) hln).mono ?_
  rintro en w1 ⟨rfl, b1⟩
  have B1 := Kept.mk (HB.out.trans (b1.mono HB.out.size))
  clear b1
  go_wp2_with fail
  go_ret2
  exact ⟨rfl, B1.out⟩
 | false =>
  rw [if_neg (by simp)]
  go_enter Try.func95, Try.ntmps95
  go_wp2_with fail
  refine (q23 p.W vn HW.out _).mono ?_
  rintro en w1 ⟨rfl, rfl⟩
  go_wp2_with fail
  go_ret2
  exact ⟨rfl, by go_grown⟩
def fenceIn (il : List Inst) (l : List Ent) : Bool := l.any fun e => (instAt il e.pc).kind == 10
def blockedOf (il : List Inst) (l : List Ent) (i : Int) : Bool := fenceIn il (l.take i.toNat)
theorem fence_step (il : List Inst) (l : List Ent) (k : Nat) (h : k < l.length) : fenceIn il (l.take (k + 1)) = (fenceIn il (l.take k) || (instAt il l[k].pc).kind == 10) := by
 unfold fenceIn
 rw [List.take_succ_eq_append_getElem h, List.any_append]
 simp
set_option maxRecDepth 100000 in
set_option maxHeartbeats 2000000 in
theorem blocked_any (p : Prg) (il : List Inst) (A : Option Addr) (c : Nat) (l : List Ent) (i : Int) (w : World) (hp : PIs w p il) (hl : RdE w A l) (hln : l.length ≤ 1000000) :
  Calls Try.prog 104 #[p.v, .slice A l.length c, .int .i64 i] w fun en w' => en = .returned (.bool (blockedOf il l i)) ∧ Below w.heap.size w w' := by
 have HP := Kept.mk hp
 have HL := Kept.mk hl
 clear hp hl
 unfold blockedOf
 have htm : l.take i.toNat = l.take (min i.toNat l.length) := by
  by_cases h : i.toNat ≤ l.length
  ·rw [Nat.min_eq_left h]
  ·rw [Nat.min_eq_right (by omega), List.take_of_length_le (by omega), List.take_of_length_le (Nat.le_refl _)]
 rw [htm]
 clear htm
 obtain ⟨m, hm⟩ : ∃ m : Nat, min i.toNat l.length = m := ⟨_, rfl⟩
 rw [hm]
 have hml : m ≤ l.length := by omega
 have HM := Kept.mk hm
 clear hm
 go_enter Try.func104, Try.ntmps104
 go_wp2_with fail
 go_loopw [7] (fun v wr => ∃ k : Nat, k ≤ m ∧ v = .int .i64 (k : Int) ∧ Kept (fenceIn il (l.take k) = false) ∧ Below (w.heap.size + 1) (w.alloc (.cells p.cs.toArray 33)) wr) (fun v _ => m - (intOf v).toNat)
 case atStart => exact ⟨0, Nat.zero_le _, rfl, ⟨rfl⟩, Below.refl _ _⟩
 case round =>
  obtain ⟨k, hk, rfl, hre, hb⟩ := hrel
  have HW := Kept.mk ((q00 w (.cells p.cs.toArray 33)).trans (hb.mono (by omega)))
  have HPX := q24 ((hb.block _ (by omega)).trans (heap_alloc_new w (.cells p.cs.toArray 33)))
  have HB := Kept.mk hb
  clear hb
  by_cases hkm : k < m
  ·have hki : (k : Int) < i := by have := HM.out; omega
   have hkl : k < l.length := by omega
   obtain ⟨b, o, rfl, hbb, hel⟩ := (HL.out.past HW.out).el hkl
   have HEX := hel.kept hbb
   clear hel
   have HAT := Kept.mk (fun w1 (h : PIs w1 p il) => at7 p il l[k].pc w1 h)
   have hst := fence_step il l k hkl
   generalize instAt il l[k].pc = I at HAT hst
   obtain ⟨g, hg⟩ : ∃ g, (I.kind == 10) = g := ⟨_, rfl⟩
   rw [hg, hre.out, Bool.false_or] at hst
   have HG := Kept.mk hg
   have HST := Kept.mk hst
   clear hst hg
   cases g with
   | true =>
    have HF : Kept (fenceIn il (l.take m) = true) := ⟨by
     have e : l.take m = l.take (k + 1) ++ (l.take m).drop (k + 1) := by
      rw [show l.take (k + 1) = (l.take m).take (k + 1) by rw [List.take_take, Nat.min_eq_left (by omega)], List.take_append_drop]
     rw [e]
     unfold fenceIn
     rw [List.any_append]
     have := HST.out
     unfold fenceIn at this
     rw [this]
     rfl⟩
    go_wp2_with fail
    refine q1E (wr.heap.size) (G := fun _ => True) (ts := [
      .is (p.v),
      .is (Value.slice (some ⟨b, o, none⟩) l.length c),
      .is (Value.int .i64 ((k : Int))),
      .is (Value.pointer (some ⟨b, o + k * 8, none⟩)),
      .is (Value.pointer (some ⟨b, o + k * 8, none⟩)),
      .is (Value.int .i64 (l[k].pc)),
      .draws (I.v),
      .is (Value.int .i64 (I.kind)),
      .is (Value.bool true)])
     (fin := []) (cs := []) (by kernel_rfl) rfl (by kernel_rfl) (by kernel_rfl)
     ⟨trivial, trivial, trivial, trivial, trivial, trivial, trivial, trivial, trivial, trivial⟩ (fun _ _ _ _ => trivial) (by simp) (by simp) trivial
     ⟨?_, ?_, ?_, ?_, ?_, ?_, ?_, ?_, ?_, trivial⟩ ?_
    ·intro vals w1 hB _ _
     refine q02 rfl ?_ (q04 rfl)
     exact q09 rfl (b := w.heap.size) (off := 0) (by kernel_rfl) p.cs (HPX.out w1 hB) Try.underlying33 rfl (by kernel_rfl)
    ·intro vals w1 hB _ _
     refine q02 rfl ?_ (q04 rfl)
     kernel_rfl
    ·intro vals w1 hB _ _
     refine q02 rfl ?_ (q04 rfl)
     kernel_rfl
    ·intro vals w1 hB _ _
     refine q02 rfl ?_ (q04 rfl)
     exact q1C (k := k) (n := l.length) (c := c) rfl (by kernel_rfl) (by kernel_rfl) Try.underlying39 (by kernel_rfl) (by omega)
    ·intro vals w1 hB _ _
     refine q02 rfl ?_ (q04 rfl)
     kernel_rfl
    ·intro vals w1 hB _ _
     refine q02 rfl ?_ (q04 rfl)
     exact q0A rfl (by kernel_rfl) (HEX.out w1 hB 0 _ rfl) Try.underlying3 rfl
    ·intro vals w1 hB _ _
     refine q12 (f := 62) (args := #[p.v, .int .i64 (l[k].pc)]) (w1 := w1) rfl (by kernel_rfl) ?_
     refine (HAT.out w1 ((HP.out.past HW.out).past hB)).mono ?_
     rintro e1 w2 ⟨rfl, h2⟩
     exact ⟨_, rfl, q18 rfl h2⟩
    ·intro vals w1 hB _ _
     refine q02 rfl ?_ (q04 rfl)
     kernel_rfl
    ·intro vals w1 hB _ _
     refine q02 rfl ?_ (q04 rfl)
     exact Eq.trans (b := .ok (.value (.bool ((I.kind) == (10)))) w1) (by kernel_rfl) (by rw [HG.out])
    intro vals w5 b5 _ hr
    clear hr
    simp only [fillT, Tell.is, Tell.draws, Act.put, List.setIfInBounds_toArray, List.set_cons_zero, List.set_cons_succ]
    have B5 := Kept.mk (HW.out.trans (b5.mono HW.out.size))
    clear b5
    go_wp2_with fail
    go_ret
    exact ⟨by rw [HF.out]; rfl, B5.out⟩
   | false =>
    go_wp2_with fail
    refine q1E (wr.heap.size) (G := fun _ => True) (ts := [
      .is (p.v),
      .is (Value.slice (some ⟨b, o, none⟩) l.length c),
      .is (Value.int .i64 ((k : Int))),
      .is (Value.pointer (some ⟨b, o + k * 8, none⟩)),
      .is (Value.pointer (some ⟨b, o + k * 8, none⟩)),
      .is (Value.int .i64 (l[k].pc)),
      .draws (I.v),
      .is (Value.int .i64 (I.kind)),
      .is (Value.bool false)])
     (fin := []) (cs := []) (by kernel_rfl) rfl (by kernel_rfl) (by kernel_rfl)
     ⟨trivial, trivial, trivial, trivial, trivial, trivial, trivial, trivial, trivial, trivial⟩ (fun _ _ _ _ => trivial) (by simp) (by simp) trivial
     ⟨?_, ?_, ?_, ?_, ?_, ?_, ?_, ?_, ?_, trivial⟩ ?_
    ·intro vals w1 hB _ _
     refine q02 rfl ?_ (q04 rfl)
     exact q09 rfl (b := w.heap.size) (off := 0) (by kernel_rfl) p.cs (HPX.out w1 hB) Try.underlying33 rfl (by kernel_rfl)
    ·intro vals w1 hB _ _
     refine q02 rfl ?_ (q04 rfl)
     kernel_rfl
    ·intro vals w1 hB _ _
     refine q02 rfl ?_ (q04 rfl)
     kernel_rfl
    ·intro vals w1 hB _ _
     refine q02 rfl ?_ (q04 rfl)
     exact q1C (k := k) (n := l.length) (c := c) rfl (by kernel_rfl) (by kernel_rfl) Try.underlying39 (by kernel_rfl) (by omega)
    ·intro vals w1 hB _ _
     refine q02 rfl ?_ (q04 rfl)
     kernel_rfl
    ·intro vals w1 hB _ _
     refine q02 rfl ?_ (q04 rfl)
     exact q0A rfl (by kernel_rfl) (HEX.out w1 hB 0 _ rfl) Try.underlying3 rfl
    ·intro vals w1 hB _ _
     refine q12 (f := 62) (args := #[p.v, .int .i64 (l[k].pc)]) (w1 := w1) rfl (by kernel_rfl) ?_
     refine (HAT.out w1 ((HP.out.past HW.out).past hB)).mono ?_
     rintro e1 w2 ⟨rfl, h2⟩
     exact ⟨_, rfl, q18 rfl h2⟩
    ·intro vals w1 hB _ _
     refine q02 rfl ?_ (q04 rfl)
     kernel_rfl
    ·intro vals w1 hB _ _
     refine q02 rfl ?_ (q04 rfl)
     exact Eq.trans (b := .ok (.value (.bool ((I.kind) == (10)))) w1) (by kernel_rfl) (by rw [HG.out])
    intro vals w5 b5 _ hr
    clear hr
    simp only [fillT, Tell.is, Tell.draws, Act.put, List.setIfInBounds_toArray, List.set_cons_zero, List.set_cons_succ]
    have B5 := Kept.mk (HB.out.trans (b5.mono (by have := HB.out.size; simp at this; omega)))
    clear b5
    go_wp2_with fail
    exact ⟨⟨k + 1, by omega, by go_num, HST, B5.out⟩, by simp [intOf] <;> omega⟩
  ·have hkm2 : k = m := by omega
   have hmk := HM.out
   by_cases hki : (k : Int) < i
   ·have hkl : l.length ≤ k := by omega
    go_wp2_with fail
    go_ret
    exact ⟨by rw [← hkm2, hre.out]; rfl, HW.out⟩
   ·go_wp2_with fail
    go_ret
    exact ⟨by rw [← hkm2, hre.out]; rfl, HW.out⟩
def aOf (W : Int) (il : List Inst) (m : Conf) (i : Int) (x : Inst) : Int × Bool := valOf W il m.st.r0 m.st.r1 m.st.r2 m.st.r3 m.buf i x.ar x.an
def bOf (W : Int) (il : List Inst) (m : Conf) (i : Int) (x : Inst) : Int × Bool := valOf W il m.st.r0 m.st.r1 m.st.r2 m.st.r3 m.buf i x.br x.bn
def dOf (il : List Inst) (m : Conf) (i : Int) (x : Inst) : Int × Bool := regOf il m.st.r0 m.st.r1 m.st.r2 m.st.r3 m.buf i x.d
set_option maxRecDepth 100000 in
set_option maxHeartbeats 4000000 in
theorem told_any (p : Prg) (il : List Inst) (c : Cnf) (m : Conf) (i : Int) (x : Inst) (w : World) (hp : PIs w p il) (hW : p.W = 1 ∨ p.W = 2) (hc : CfIs w c m) (hln : m.buf.length ≤ 1000000) :
  Calls Try.prog 93 #[p.v, c.v, .int .i64 i, x.v] w fun en w' =>
   en = .returned (.tuple #[.int .i64 (aOf p.W il m i x).1, .int .i64 (bOf p.W il m i x).1, .int .i64 (dOf il m i x).1, .bool ((aOf p.W il m i x).2 && (bOf p.W il m i x).2), .bool (dOf il m i x).2]) ∧ Below w.heap.size w w' := by
 obtain ⟨⟨r0, r1, r2, r3, ⟨mA, mN, mC⟩, ⟨sA, sN, sC⟩, pc⟩, ⟨bA, bN, bC⟩, ⟨qA, qN, qC⟩, fin⟩ := c
 obtain ⟨⟨q0, q1, q2, q3, mem, stack, qc⟩, buf, rsb, qf⟩ := m
 obtain ⟨⟨h0, h1, h2, h3, hmem, hstk, hpc⟩, ⟨hbn, hbc, hbr⟩, hrsb, hf⟩ := hc
 simp only at h0 h1 h2 h3 hpc hf hbn hbc hbr hln
 subst h0 h1 h2 h3 hpc hf hbn
 obtain ⟨kind, op, d, ar, an, br, bn, name, target⟩ := x
 have HL := Kept.mk hbr
 have HP := Kept.mk hp
 clear hbr hp hmem hstk hrsb
 unfold aOf bOf dOf
 simp only
 have HV := Kept.mk (fun (vr : Bool) (vn : Int) (w1 : World) (h1 : PIs w1 p il) (h2 : RdE w1 bA buf) => val_any p il r0 r1 r2 r3 bA bC buf i vr vn w1 h1 hW h2 hln)
 have HR := Kept.mk (fun (w1 : World) (h1 : PIs w1 p il) (h2 : RdE w1 bA buf) => reg_any p il r0 r1 r2 r3 bA bC buf i d w1 h1 h2 hln)
 generalize valOf p.W il r0 r1 r2 r3 buf i = V at HV
 have HVA := Kept.mk (fun w1 h1 h2 => HV.out ar an w1 h1 h2)
 have HVB := Kept.mk (fun w1 h1 h2 => HV.out br bn w1 h1 h2)
 clear HV
 generalize V ar an = VA at HVA
 generalize V br bn = VB at HVB
 obtain ⟨a1, a2⟩ := VA
 obtain ⟨b1, b2⟩ := VB
 generalize regOf il r0 r1 r2 r3 buf i d = D at HR
 obtain ⟨d1, d2⟩ := D
 clear hW
 go_enter Try.func93, Try.ntmps93
 go_wp2_with fail
 have HB := Kept.mk (((q00 w (.cells p.cs.toArray 33)).alloc (by simp) (.cells (Cnf.cs ⟨⟨r0, r1, r2, r3, ⟨mA, mN, mC⟩, ⟨sA, sN, sC⟩, pc⟩, ⟨bA, buf.length, bC⟩, ⟨qA, qN, qC⟩, fin⟩).toArray 41)).alloc (by simp; omega) (.cells (Inst.cs ⟨kind, op, d, ar, an, br, bn, name, target⟩).toArray 53))
 refine (HVA.out _ (HP.out.past HB.out) (HL.out.past HB.out)).mono ?_
 rintro en w1 ⟨rfl, b1'⟩
 have X0 := (b1'.block w.heap.size (by simp; omega)).trans ((heap_alloc_old _ _ (by simp; omega)).trans ((heap_alloc_old _ _ (by simp)).trans (heap_alloc_new w (.cells p.cs.toArray 33))))
 have X1 := (b1'.block (w.heap.size + 1) (by simp)).trans ((heap_alloc_old _ _ (by simp)).trans (heap_alloc2_new w (.cells p.cs.toArray 33) (.cells (Cnf.cs ⟨⟨r0, r1, r2, r3, ⟨mA, mN, mC⟩, ⟨sA, sN, sC⟩, pc⟩, ⟨bA, buf.length, bC⟩, ⟨qA, qN, qC⟩, fin⟩).toArray 41)))
 have X2 := (b1'.block (w.heap.size + 1 + 1) (by simp)).trans (q06 (o := (.cells (Inst.cs ⟨kind, op, d, ar, an, br, bn, name, target⟩).toArray 53)) (by simp))
 have Y0 := fun j => cell_of_row w1 w.heap.size j _ _ _ X0
 have Y1 := fun j => cell_of_row w1 (w.heap.size + 1) j _ _ _ X1
 have Y2 := fun j => cell_of_row w1 (w.heap.size + 1 + 1) j _ _ _ X2
 simp only [Prg.cs, Cnf.cs, Inst.cs] at Y0 Y1 Y2
 have KX0 := Kept.mk X0
 have KX1 := Kept.mk X1
 have KX2 := Kept.mk X2
 clear X0 X1 X2
 have S1 : w.heap.size + 3 ≤ w1.heap.size := by have := b1'.size; simpa using this
 have B1 := Kept.mk (HB.out.trans (b1'.mono HB.out.size))
 clear b1'
 go_wp2_with fail
 refine (HVB.out _ (HP.out.past B1.out) (HL.out.past B1.out)).mono ?_
 rintro en w2 ⟨rfl, b2'⟩
 have X0 := (b2'.block w.heap.size (by omega)).trans KX0.out
 have X1 := (b2'.block (w.heap.size + 1) (by omega)).trans KX1.out
 have X2 := (b2'.block (w.heap.size + 1 + 1) (by omega)).trans KX2.out
 clear Y0 Y1 Y2 KX0 KX1 KX2
 have Y0 := fun j => cell_of_row w2 w.heap.size j _ _ _ X0
 have Y1 := fun j => cell_of_row w2 (w.heap.size + 1) j _ _ _ X1
 have Y2 := fun j => cell_of_row w2 (w.heap.size + 1 + 1) j _ _ _ X2
 simp only [Prg.cs, Cnf.cs, Inst.cs] at Y0 Y1 Y2
 clear X0 X1 X2
 have S2 : w.heap.size + 3 ≤ w2.heap.size := Nat.le_trans S1 b2'.size
 have B2 := Kept.mk (B1.out.trans (b2'.mono B1.out.size))
 clear b2'
 go_wp2_with fail
 refine (HR.out _ (HP.out.past B2.out) (HL.out.past B2.out)).mono ?_
 rintro en w3 ⟨rfl, b3⟩
 have B3 := Kept.mk (B2.out.trans (b3.mono B2.out.size))
 clear b3
 cases a2
 all_goals
  go_wp2_with fail
  refine q0C _ [.int .i64 a1, .int .i64 b1, .int .i64 d1, .bool (_ && b2), .bool d2] Try.results93 (.cons (.tmp rfl) (.cons (.tmp rfl) (.cons (.tmp rfl) (.cons (.tmp rfl) (.cons (.tmp rfl) .nil))))) rfl ⟨rfl, B3.out⟩
def openOf (il : List Inst) (m : Conf) (i : Int) : Bool := decide (m.fin = 0 ∧ 0 ≤ i ∧ i < m.buf.length) && !blockedOf il m.buf i
set_option maxRecDepth 100000 in
set_option maxHeartbeats 4000000 in
theorem open_any (p : Prg) (il : List Inst) (c : Cnf) (m : Conf) (i : Int) (w : World) (hp : PIs w p il) (hc : CfIs w c m) (hln : m.buf.length ≤ 1000000) :
  Calls Try.prog 92 #[p.v, c.v, .int .i64 i] w fun en w' => en = .returned (.bool (openOf il m i)) ∧ Below w.heap.size w w' := by
 obtain ⟨⟨r0, r1, r2, r3, ⟨mA, mN, mC⟩, ⟨sA, sN, sC⟩, pc⟩, ⟨bA, bN, bC⟩, ⟨qA, qN, qC⟩, fin⟩ := c
 obtain ⟨⟨q0, q1, q2, q3, mem, stack, qc⟩, buf, rsb, qf⟩ := m
 obtain ⟨⟨h0, h1, h2, h3, hmem, hstk, hpc⟩, ⟨hbn, hbc, hbr⟩, hrsb, hf⟩ := hc
 simp only at h0 h1 h2 h3 hpc hf hbn hbc hbr hln
 subst h0 h1 h2 h3 hpc hf hbn
 have HL := Kept.mk hbr
 have HP := Kept.mk hp
 clear hbr hp hmem hstk hrsb
 unfold openOf
 simp only
 have HB := Kept.mk ((q00 w (.cells p.cs.toArray 33)).alloc (by simp) (.cells (Cnf.cs ⟨⟨r0, r1, r2, r3, ⟨mA, mN, mC⟩, ⟨sA, sN, sC⟩, pc⟩, ⟨bA, buf.length, bC⟩, ⟨qA, qN, qC⟩, fin⟩).toArray 41))
 by_cases h1 : fin = 0
 ·subst h1
  by_cases h2 : 0 ≤ i
  ·by_cases h3 : i < buf.length
   ·rw [decide_eq_true ⟨rfl, h2, h3⟩, Bool.true_and]
    have HC := Kept.mk (fun w1 (h1 : PIs w1 p il) (h2 : RdE w1 bA buf) => blocked_any p il bA bC buf i w1 h1 h2 hln)
    generalize blockedOf il buf i = bl at HC
    go_enter Try.func92, Try.ntmps92
    go_wp2_with fail
    refine (HC.out _ (HP.out.past HB.out) (HL.out.past HB.out)).mono ?_
    rintro en w1 ⟨rfl, b1⟩
    have B1 := Kept.mk (HB.out.trans (b1.mono HB.out.size))
    clear b1
    go_wp2_with fail
    go_ret
    exact ⟨rfl, B1.out⟩
   ·rw [decide_eq_false (by simp; omega), Bool.false_and]
    go_enter Try.func92, Try.ntmps92
    go_wp2_with fail
    go_ret
    exact ⟨rfl, HB.out⟩
  ·rw [decide_eq_false (by simp; omega), Bool.false_and]
   go_enter Try.func92, Try.ntmps92
   go_wp2_with fail
   go_ret
   exact ⟨rfl, HB.out⟩
 ·have h1' : (fin == 0) = false := by simp [h1]
  rw [decide_eq_false (by simp; intro h; exact absurd h h1), Bool.false_and]
  clear h1
  go_enter Try.func92, Try.ntmps92
  go_wp2_with fail
  go_ret
  exact ⟨rfl, HB.out⟩
end
section
def loadGo (il : List Inst) (l : List Ent) (mem : List Int) (addr : Int) : Nat → Int × Int × Bool
 | 0 => if addr < 0 ∨ (mem.length : Int) ≤ addr then (0, -1, true) else (mem[addr.toNat]?.getD 0, -1, true)
 | k + 1 => match l[k]? with
  | none => (0, -1, true)
  | some e => if ((instAt il e.pc).kind == 3 && e.known && e.addr == addr) = true then (if e.done then (e.val, (k : Int), true) else (0, 0, false)) else loadGo il l mem addr k
def loadOf (il : List Inst) (l : List Ent) (mem : List Int) (i addr : Int) : Int × Int × Bool := loadGo il l mem addr (min (max i 0) l.length).toNat
set_option maxRecDepth 100000 in
set_option maxHeartbeats 4000000 in
theorem load_any (p : Prg) (il : List Inst) (Am : Option Addr) (cm : Nat) (mem : List Int) (A : Option Addr) (c : Nat) (l : List Ent) (i addr : Int) (w : World) (hp : PIs w p il) (hm : RdI w Am mem) (hml : mem.length ≤ 1000000) (hl : RdE w A l) (hln : l.length ≤ 1000000) :
  Calls Try.prog 94 #[p.v, .slice Am mem.length cm, .slice A l.length c, .int .i64 i, .int .i64 addr] w fun en w' =>
   en = .returned (.tuple #[.int .i64 (loadOf il l mem i addr).1, .int .i64 (loadOf il l mem i addr).2.1, .bool (loadOf il l mem i addr).2.2]) ∧ Below w.heap.size w w' := by
 have HP := Kept.mk hp
 have HL := Kept.mk hl
 have HMM := Kept.mk hm
 clear hp hl hm
 unfold loadOf
 obtain ⟨m, hm⟩ : ∃ m : Nat, min (max i 0) (l.length : Int) = (m : Int) := ⟨(min (max i 0) (l.length : Int)).toNat, by omega⟩
 have hml' : m ≤ l.length := by omega
 rw [hm, Int.toNat_natCast]
 go_enter Try.func94, Try.ntmps94
 go_wp2_with fail
 have HM := Kept.mk hm
 clear hm
 go_loopw [13] (fun v wr => ∃ k : Nat, k ≤ m ∧ v = .int .i64 ((k : Int) - 1) ∧ Kept (loadGo il l mem addr k = loadGo il l mem addr m) ∧ Below (w.heap.size + 1) (w.alloc (.cells p.cs.toArray 33)) wr) (fun v _ => (intOf v + 1).toNat)
 case atStart => exact ⟨m, Nat.le_refl _, rfl, ⟨rfl⟩, Below.refl _ _⟩
 case round =>
  obtain ⟨k, hk, rfl, hre, hb⟩ := hrel
  have HW := Kept.mk ((q00 w (.cells p.cs.toArray 33)).trans (hb.mono (by omega)))
  have HPX := q24 ((hb.block _ (by omega)).trans (heap_alloc_new w (.cells p.cs.toArray 33)))
  have HB := Kept.mk hb
  clear hb
  cases k with
  | zero =>
   by_cases h0 : addr < 0
   ·have HF := Kept.mk (hre.out.symm.trans (show loadGo il l mem addr 0 = (0, -1, true) by rw [loadGo, if_pos (.inl h0)]))
    clear hre
    go_wp2_with fail
    go_ret3
    exact ⟨by rw [HF.out]; rfl, HW.out⟩
   ·by_cases h1 : (mem.length : Int) ≤ addr
    ·have HF := Kept.mk (hre.out.symm.trans (show loadGo il l mem addr 0 = (0, -1, true) by rw [loadGo, if_pos (.inr h1)]))
     clear hre
     go_wp2_with fail
     go_ret3
     exact ⟨by rw [HF.out]; rfl, HW.out⟩
    ·obtain ⟨a, rfl⟩ := Int.eq_ofNat_of_zero_le (show 0 ≤ addr by omega)
     have ha : a < mem.length := by omega
     have HF := Kept.mk (hre.out.symm.trans (show loadGo il l mem (a : Int) 0 = (mem[a], -1, true) by rw [loadGo, if_neg (by omega), Int.toNat_natCast, List.getElem?_eq_getElem ha]; rfl))
     obtain ⟨b, o, rfl, hbb, hc0⟩ := (HMM.out.past HW.out).at_ ha
     clear hre
     go_wp2_with fail
     go_ret3
     exact ⟨by rw [HF.out]; rfl, HW.out⟩
  | succ k =>
   have hkl : k < l.length := by omega
   obtain ⟨b, o, rfl, hbb, hel⟩ := (HL.out.past HW.out).el hkl
   have HEX := hel.kept hbb
   clear hel
   have HAT := Kept.mk (fun w1 (h : PIs w1 p il) => at7 p il l[k].pc w1 h)
   have hre2 := hre.out
   clear hre
   rw [loadGo, List.getElem?_eq_getElem hkl] at hre2
   simp only at hre2
   generalize instAt il l[k].pc = I at HAT hre2
   obtain ⟨g1, hg1⟩ : ∃ g, (I.kind == 3) = g := ⟨_, rfl⟩
   obtain ⟨g3, hg3⟩ : ∃ g, (l[k].addr == addr) = g := ⟨_, rfl⟩
   rw [hg1, hg3] at hre2
   have HG1 := Kept.mk hg1
   have HG3 := Kept.mk hg3
   have hkk : ((k + 1 : Nat) : Int) - 1 = (k : Int) := by omega
   rw [hkk]
   clear hkk hg1 hg3
   have HRE := Kept.mk hre2
   clear hre2
   by_cases hall : (g1 && l[k].known && g3) = true
   ·have HF := Kept.mk (HRE.out.symm.trans (if_pos hall))
    clear HRE
    go_wp2_with fail
    refine q1E (wr.heap.size) (G := fun _ => True) (ts := [
      .is (p.v),
      .is (Value.slice (some ⟨b, o, none⟩) l.length c),
      .is (Value.int .i64 ((k : Int))),
      .is (Value.pointer (some ⟨b, o + k * 8, none⟩)),
      .is (Value.pointer (some ⟨b, o + k * 8, none⟩)),
      .is (Value.int .i64 (l[k].pc)),
      .draws (I.v),
      .is (Value.int .i64 (I.kind)),
      .is (Value.bool g1),
      .is (Value.bool g1),
      .gets (fun v _ => v = (bif g1 then .slice (some ⟨b, o, none⟩) l.length c else undef)),
      .gets (fun v _ => v = (bif g1 then .int .i64 ((k : Int)) else undef)),
      .gets (fun v _ => v = (bif g1 then .pointer (some ⟨b, o + k * 8, none⟩) else undef)),
      .gets (fun v _ => v = (bif g1 then .pointer (some ⟨b, o + k * 8 + 6, none⟩) else undef)),
      .gets (fun v _ => v = (bif g1 then .bool (l[k].known) else undef)),
      .is (Value.bool (g1 && (l[k].known))),
      .is (Value.bool (g1 && (l[k].known))),
      .gets (fun v _ => v = (bif g1 && (l[k].known) then .slice (some ⟨b, o, none⟩) l.length c else undef)),
      .gets (fun v _ => v = (bif g1 && (l[k].known) then .int .i64 ((k : Int)) else undef)),
      .gets (fun v _ => v = (bif g1 && (l[k].known) then .pointer (some ⟨b, o + k * 8, none⟩) else undef)),
      .gets (fun v _ => v = (bif g1 && (l[k].known) then .pointer (some ⟨b, o + k * 8 + 2, none⟩) else undef)),
      .gets (fun v _ => v = (bif g1 && (l[k].known) then .int .i64 (l[k].addr) else undef)),
      .gets (fun v _ => v = (bif g1 && (l[k].known) then .int .i64 (addr) else undef)),
      .gets (fun v _ => v = (bif g1 && (l[k].known) then .bool g3 else undef)),
      .is (Value.bool ((g1 && (l[k].known)) && g3))])
     (fin := []) (cs := []) (by kernel_rfl) rfl (by kernel_rfl) (by kernel_rfl)
     ⟨trivial, trivial, trivial, trivial, trivial, trivial, trivial, trivial, trivial, trivial, q07 _, q07 _, q07 _, q07 _, q07 _, trivial, trivial, q07 _, q07 _, q07 _, q07 _, q07 _, q07 _, q07 _, trivial, trivial⟩ (fun _ _ _ _ => trivial) (by simp) (by simp) trivial
     ⟨?_, ?_, ?_, ?_, ?_, ?_, ?_, ?_, ?_, ?_, ?_, ?_, ?_, ?_, ?_, ?_, ?_, ?_, ?_, ?_, ?_, ?_, ?_, ?_, ?_, trivial⟩ ?_
    ·intro vals w1 hB _ _
     refine q02 rfl ?_ (q04 rfl)
     exact q09 rfl (b := w.heap.size) (off := 0) (by kernel_rfl) p.cs (HPX.out w1 hB) Try.underlying33 rfl (by kernel_rfl)
    ·intro vals w1 hB _ _
     refine q02 rfl ?_ (q04 rfl)
     kernel_rfl
    ·intro vals w1 hB _ _
     refine q02 rfl ?_ (q04 rfl)
     kernel_rfl
    ·intro vals w1 hB _ _
     refine q02 rfl ?_ (q04 rfl)
     exact q1C (k := k) (n := l.length) (c := c) rfl (by kernel_rfl) (by kernel_rfl) Try.underlying39 (by kernel_rfl) (by omega)
    ·intro vals w1 hB _ _
     refine q02 rfl ?_ (q04 rfl)
     kernel_rfl
    ·intro vals w1 hB _ _
     refine q02 rfl ?_ (q04 rfl)
     exact q0A rfl (by kernel_rfl) (HEX.out w1 hB 0 _ rfl) Try.underlying3 rfl
    ·intro vals w1 hB _ _
     refine q12 (f := 62) (args := #[p.v, .int .i64 (l[k].pc)]) (w1 := w1) rfl (by kernel_rfl) ?_
     refine (HAT.out w1 ((HP.out.past HW.out).past hB)).mono ?_
     rintro e1 w2 ⟨rfl, h2⟩
     exact ⟨_, rfl, q18 rfl h2⟩
    ·intro vals w1 hB _ _
     refine q02 rfl ?_ (q04 rfl)
     kernel_rfl
    ·intro vals w1 hB _ _
     refine q02 rfl ?_ (q04 rfl)
     exact Eq.trans (b := .ok (.value (.bool ((I.kind) == (3)))) w1) (by kernel_rfl) (by rw [HG1.out])
    ·intro vals w1 hB _ _
     refine q02 rfl ?_ (q04 rfl)
     kernel_rfl
    ·intro vals w1 hB _ _
     refine q0E (g := g1) (v := Value.slice (some ⟨b, o, none⟩) l.length c) (by generalize g1 = gz; cases gz <;> kernel_rfl) (fun hg => ?_) (q0B rfl rfl)
     kernel_rfl
    ·intro vals w1 hB _ _
     refine q0E (g := g1) (v := Value.int .i64 ((k : Int))) (by generalize g1 = gz; cases gz <;> kernel_rfl) (fun hg => ?_) (q0B rfl rfl)
     kernel_rfl
    ·intro vals w1 hB _ hd
     have d34 : vals 10 = (bif g1 then .slice (some ⟨b, o, none⟩) l.length c else undef) := hd 10 (by kernel_rfl)
     have d35 : vals 11 = (bif g1 then .int .i64 ((k : Int)) else undef) := hd 11 (by kernel_rfl)
     clear hd
     refine q0E (g := g1) (v := Value.pointer (some ⟨b, o + k * 8, none⟩)) (by generalize g1 = gz; cases gz <;> kernel_rfl) (fun hg => ?_) (q0B rfl rfl)
     rw [hg] at d34 d35
     rw [q0D (d34.trans (show _ = Value.slice (some ⟨b, o, none⟩) l.length c from rfl))]
     rw [q0D (d35.trans (show _ = Value.int .i64 ((k : Int)) from rfl))]
     exact q1C (k := k) (n := l.length) (c := c) rfl (by kernel_rfl) (by kernel_rfl) Try.underlying39 (by kernel_rfl) (by omega)
    ·intro vals w1 hB _ hd
     have d36 : vals 12 = (bif g1 then .pointer (some ⟨b, o + k * 8, none⟩) else undef) := hd 12 (by kernel_rfl)
     clear hd
     refine q0E (g := g1) (v := Value.pointer (some ⟨b, o + k * 8 + 6, none⟩)) (by generalize g1 = gz; cases gz <;> kernel_rfl) (fun hg => ?_) (q0B rfl rfl)
     rw [hg] at d36
     rw [q0D (d36.trans (show _ = Value.pointer (some ⟨b, o + k * 8, none⟩) from rfl))]
     kernel_rfl
    ·intro vals w1 hB _ hd
     have d37 : vals 13 = (bif g1 then .pointer (some ⟨b, o + k * 8 + 6, none⟩) else undef) := hd 13 (by kernel_rfl)
     clear hd
     refine q0E (g := g1) (v := Value.bool (l[k].known)) (by generalize g1 = gz; cases gz <;> kernel_rfl) (fun hg => ?_) (q0B rfl rfl)
     rw [hg] at d37
     rw [q0D (d37.trans (show _ = Value.pointer (some ⟨b, o + k * 8 + 6, none⟩) from rfl))]
     exact q0A rfl (by kernel_rfl) (HEX.out w1 hB 6 _ rfl) Try.underlying4 rfl
    ·intro vals w1 hB _ hd
     have d38 : vals 14 = (bif g1 then .bool (l[k].known) else undef) := hd 14 (by kernel_rfl)
     clear hd
     refine q02 rfl ?_ (q04 rfl)
     rw [q0D d38]
     generalize g1 = gz
     cases gz <;> kernel_rfl
    ·intro vals w1 hB _ _
     refine q02 rfl ?_ (q04 rfl)
     kernel_rfl
    ·intro vals w1 hB _ _
     refine q0E (g := g1 && (l[k].known)) (v := Value.slice (some ⟨b, o, none⟩) l.length c) (by generalize (g1 && (l[k].known)) = gz; cases gz <;> kernel_rfl) (fun hg => ?_) (q0B rfl rfl)
     kernel_rfl
    ·intro vals w1 hB _ _
     refine q0E (g := g1 && (l[k].known)) (v := Value.int .i64 ((k : Int))) (by generalize (g1 && (l[k].known)) = gz; cases gz <;> kernel_rfl) (fun hg => ?_) (q0B rfl rfl)
     kernel_rfl
    ·intro vals w1 hB _ hd
     have d41 : vals 17 = (bif g1 && (l[k].known) then .slice (some ⟨b, o, none⟩) l.length c else undef) := hd 17 (by kernel_rfl)
     have d42 : vals 18 = (bif g1 && (l[k].known) then .int .i64 ((k : Int)) else undef) := hd 18 (by kernel_rfl)
     clear hd
     refine q0E (g := g1 && (l[k].known)) (v := Value.pointer (some ⟨b, o + k * 8, none⟩)) (by generalize (g1 && (l[k].known)) = gz; cases gz <;> kernel_rfl) (fun hg => ?_) (q0B rfl rfl)
     rw [hg] at d41 d42
     rw [q0D (d41.trans (show _ = Value.slice (some ⟨b, o, none⟩) l.length c from rfl))]
     rw [q0D (d42.trans (show _ = Value.int .i64 ((k : Int)) from rfl))]
     exact q1C (k := k) (n := l.length) (c := c) rfl (by kernel_rfl) (by kernel_rfl) Try.underlying39 (by kernel_rfl) (by omega)
    ·intro vals w1 hB _ hd
     have d43 : vals 19 = (bif g1 && (l[k].known) then .pointer (some ⟨b, o + k * 8, none⟩) else undef) := hd 19 (by kernel_rfl)
     clear hd
     refine q0E (g := g1 && (l[k].known)) (v := Value.pointer (some ⟨b, o + k * 8 + 2, none⟩)) (by generalize (g1 && (l[k].known)) = gz; cases gz <;> kernel_rfl) (fun hg => ?_) (q0B rfl rfl)
     rw [hg] at d43
     rw [q0D (d43.trans (show _ = Value.pointer (some ⟨b, o + k * 8, none⟩) from rfl))]
     kernel_rfl
    ·intro vals w1 hB _ hd
     have d44 : vals 20 = (bif g1 && (l[k].known) then .pointer (some ⟨b, o + k * 8 + 2, none⟩) else undef) := hd 20 (by kernel_rfl)
     clear hd
     refine q0E (g := g1 && (l[k].known)) (v := Value.int .i64 (l[k].addr)) (by generalize (g1 && (l[k].known)) = gz; cases gz <;> kernel_rfl) (fun hg => ?_) (q0B rfl rfl)
     rw [hg] at d44
     rw [q0D (d44.trans (show _ = Value.pointer (some ⟨b, o + k * 8 + 2, none⟩) from rfl))]
     exact q0A rfl (by kernel_rfl) (HEX.out w1 hB 2 _ rfl) Try.underlying3 rfl
    ·intro vals w1 hB _ _
     refine q0E (g := g1 && (l[k].known)) (v := Value.int .i64 (addr)) (by generalize (g1 && (l[k].known)) = gz; cases gz <;> kernel_rfl) (fun hg => ?_) (q0B rfl rfl)
     kernel_rfl
    ·intro vals w1 hB _ hd
     have d45 : vals 21 = (bif g1 && (l[k].known) then .int .i64 (l[k].addr) else undef) := hd 21 (by kernel_rfl)
     have d46 : vals 22 = (bif g1 && (l[k].known) then .int .i64 (addr) else undef) := hd 22 (by kernel_rfl)
     clear hd
     refine q0E (g := g1 && (l[k].known)) (v := Value.bool g3) (by generalize (g1 && (l[k].known)) = gz; cases gz <;> kernel_rfl) (fun hg => ?_) (q0B rfl rfl)
     rw [hg] at d45 d46
     rw [q0D (d45.trans (show _ = Value.int .i64 (l[k].addr) from rfl))]
     rw [q0D (d46.trans (show _ = Value.int .i64 (addr) from rfl))]
     exact Eq.trans (b := .ok (.value (.bool ((l[k].addr) == (addr)))) w1) (by kernel_rfl) (by rw [HG3.out])
    ·intro vals w1 hB _ hd
     have d47 : vals 23 = (bif g1 && (l[k].known) then .bool g3 else undef) := hd 23 (by kernel_rfl)
     clear hd
     refine q02 rfl ?_ (q04 rfl)
     rw [q0D d47]
     generalize (g1 && (l[k].known)) = gz
     cases gz <;> kernel_rfl
    intro vals w5 b5 _ hr
    clear hr
    simp only [fillT, Tell.is, Tell.draws, Tell.gets, Act.put, List.setIfInBounds_toArray, List.set_cons_zero, List.set_cons_succ]
    have c5 := HEX.out w5 b5 5 (.bool l[k].done) rfl
    have c1 := HEX.out w5 b5 1 (.int .i64 l[k].val) rfl
    have W5 := Kept.mk (HW.out.trans (b5.mono HW.out.size))
    clear b5
    rw [hall]
    cases hdn : l[k].done with
    | true =>
     rw [hdn] at c5
     have HF2 := Kept.mk (HF.out.trans (if_pos hdn))
     clear hdn
     go_wp2_with fail
     go_ret3
     exact ⟨by rw [HF2.out]; rfl, W5.out⟩
    | false =>
     rw [hdn] at c5
     have HF2 := Kept.mk (HF.out.trans (if_neg (by rw [hdn]; simp)))
     clear hdn
     go_wp2_with fail
     go_ret3
     exact ⟨by rw [HF2.out]; rfl, W5.out⟩
   ·have HF : Kept (loadGo il l mem addr k = loadGo il l mem addr m) := ⟨by rw [← HRE.out, if_neg hall]⟩
    clear HRE
    go_wp2_with fail
    refine q1E (wr.heap.size) (G := fun _ => True) (ts := [
      .is (p.v),
      .is (Value.slice (some ⟨b, o, none⟩) l.length c),
      .is (Value.int .i64 ((k : Int))),
      .is (Value.pointer (some ⟨b, o + k * 8, none⟩)),
      .is (Value.pointer (some ⟨b, o + k * 8, none⟩)),
      .is (Value.int .i64 (l[k].pc)),
      .draws (I.v),
      .is (Value.int .i64 (I.kind)),
      .is (Value.bool g1),
      .is (Value.bool g1),
      .gets (fun v _ => v = (bif g1 then .slice (some ⟨b, o, none⟩) l.length c else undef)),
      .gets (fun v _ => v = (bif g1 then .int .i64 ((k : Int)) else undef)),
      .gets (fun v _ => v = (bif g1 then .pointer (some ⟨b, o + k * 8, none⟩) else undef)),
      .gets (fun v _ => v = (bif g1 then .pointer (some ⟨b, o + k * 8 + 6, none⟩) else undef)),
      .gets (fun v _ => v = (bif g1 then .bool (l[k].known) else undef)),
      .is (Value.bool (g1 && (l[k].known))),
      .is (Value.bool (g1 && (l[k].known))),
      .gets (fun v _ => v = (bif g1 && (l[k].known) then .slice (some ⟨b, o, none⟩) l.length c else undef)),
      .gets (fun v _ => v = (bif g1 && (l[k].known) then .int .i64 ((k : Int)) else undef)),
      .gets (fun v _ => v = (bif g1 && (l[k].known) then .pointer (some ⟨b, o + k * 8, none⟩) else undef)),
      .gets (fun v _ => v = (bif g1 && (l[k].known) then .pointer (some ⟨b, o + k * 8 + 2, none⟩) else undef)),
      .gets (fun v _ => v = (bif g1 && (l[k].known) then .int .i64 (l[k].addr) else undef)),
      .gets (fun v _ => v = (bif g1 && (l[k].known) then .int .i64 (addr) else undef)),
      .gets (fun v _ => v = (bif g1 && (l[k].known) then .bool g3 else undef)),
      .is (Value.bool ((g1 && (l[k].known)) && g3))])
     (fin := []) (cs := []) (by kernel_rfl) rfl (by kernel_rfl) (by kernel_rfl)
     ⟨trivial, trivial, trivial, trivial, trivial, trivial, trivial, trivial, trivial, trivial, q07 _, q07 _, q07 _, q07 _, q07 _, trivial, trivial, q07 _, q07 _, q07 _, q07 _, q07 _, q07 _, q07 _, trivial, trivial⟩ (fun _ _ _ _ => trivial) (by simp) (by simp) trivial
     ⟨?_, ?_, ?_, ?_, ?_, ?_, ?_, ?_, ?_, ?_, ?_, ?_, ?_, ?_, ?_, ?_, ?_, ?_, ?_, ?_, ?_, ?_, ?_, ?_, ?_, trivial⟩ ?_
    ·intro vals w1 hB _ _
     refine q02 rfl ?_ (q04 rfl)
     exact q09 rfl (b := w.heap.size) (off := 0) (by kernel_rfl) p.cs (HPX.out w1 hB) Try.underlying33 rfl (by kernel_rfl)
    ·intro vals w1 hB _ _
     refine q02 rfl ?_ (q04 rfl)
     kernel_rfl
    ·intro vals w1 hB _ _
     refine q02 rfl ?_ (q04 rfl)
     kernel_rfl
    ·intro vals w1 hB _ _
     refine q02 rfl ?_ (q04 rfl)
     exact q1C (k := k) (n := l.length) (c := c) rfl (by kernel_rfl) (by kernel_rfl) Try.underlying39 (by kernel_rfl) (by omega)
    ·intro vals w1 hB _ _
     refine q02 rfl ?_ (q04 rfl)
     kernel_rfl
    ·intro vals w1 hB _ _
     refine q02 rfl ?_ (q04 rfl)
     exact q0A rfl (by kernel_rfl) (HEX.out w1 hB 0 _ rfl) Try.underlying3 rfl
    ·intro vals w1 hB _ _
     refine q12 (f := 62) (args := #[p.v, .int .i64 (l[k].pc)]) (w1 := w1) rfl (by kernel_rfl) ?_
     refine (HAT.out w1 ((HP.out.past HW.out).past hB)).mono ?_
     rintro e1 w2 ⟨rfl, h2⟩
     exact ⟨_, rfl, q18 rfl h2⟩
    ·intro vals w1 hB _ _
     refine q02 rfl ?_ (q04 rfl)
     kernel_rfl
    ·intro vals w1 hB _ _
     refine q02 rfl ?_ (q04 rfl)
     exact Eq.trans (b := .ok (.value (.bool ((I.kind) == (3)))) w1) (by kernel_rfl) (by rw [HG1.out])
    ·intro vals w1 hB _ _
     refine q02 rfl ?_ (q04 rfl)
     kernel_rfl
    ·intro vals w1 hB _ _
     refine q0E (g := g1) (v := Value.slice (some ⟨b, o, none⟩) l.length c) (by generalize g1 = gz; cases gz <;> kernel_rfl) (fun hg => ?_) (q0B rfl rfl)
     kernel_rfl
    ·intro vals w1 hB _ _
     refine q0E (g := g1) (v := Value.int .i64 ((k : Int))) (by generalize g1 = gz; cases gz <;> kernel_rfl) (fun hg => ?_) (q0B rfl rfl)
     kernel_rfl
    ·intro vals w1 hB _ hd
     have d34 : vals 10 = (bif g1 then .slice (some ⟨b, o, none⟩) l.length c else undef) := hd 10 (by kernel_rfl)
     have d35 : vals 11 = (bif g1 then .int .i64 ((k : Int)) else undef) := hd 11 (by kernel_rfl)
     clear hd
     refine q0E (g := g1) (v := Value.pointer (some ⟨b, o + k * 8, none⟩)) (by generalize g1 = gz; cases gz <;> kernel_rfl) (fun hg => ?_) (q0B rfl rfl)
     rw [hg] at d34 d35
     rw [q0D (d34.trans (show _ = Value.slice (some ⟨b, o, none⟩) l.length c from rfl))]
     rw [q0D (d35.trans (show _ = Value.int .i64 ((k : Int)) from rfl))]
     exact q1C (k := k) (n := l.length) (c := c) rfl (by kernel_rfl) (by kernel_rfl) Try.underlying39 (by kernel_rfl) (by omega)
    ·intro vals w1 hB _ hd
     have d36 : vals 12 = (bif g1 then .pointer (some ⟨b, o + k * 8, none⟩) else undef) := hd 12 (by kernel_rfl)
     clear hd
     refine q0E (g := g1) (v := Value.pointer (some ⟨b, o + k * 8 + 6, none⟩)) (by generalize g1 = gz; cases gz <;> kernel_rfl) (fun hg => ?_) (q0B rfl rfl)
     rw [hg] at d36
     rw [q0D (d36.trans (show _ = Value.pointer (some ⟨b, o + k * 8, none⟩) from rfl))]
     kernel_rfl
    ·intro vals w1 hB _ hd
     have d37 : vals 13 = (bif g1 then .pointer (some ⟨b, o + k * 8 + 6, none⟩) else undef) := hd 13 (by kernel_rfl)
     clear hd
     refine q0E (g := g1) (v := Value.bool (l[k].known)) (by generalize g1 = gz; cases gz <;> kernel_rfl) (fun hg => ?_) (q0B rfl rfl)
     rw [hg] at d37
     rw [q0D (d37.trans (show _ = Value.pointer (some ⟨b, o + k * 8 + 6, none⟩) from rfl))]
     exact q0A rfl (by kernel_rfl) (HEX.out w1 hB 6 _ rfl) Try.underlying4 rfl
    ·intro vals w1 hB _ hd
     have d38 : vals 14 = (bif g1 then .bool (l[k].known) else undef) := hd 14 (by kernel_rfl)
     clear hd
     refine q02 rfl ?_ (q04 rfl)
     rw [q0D d38]
     generalize g1 = gz
     cases gz <;> kernel_rfl
    ·intro vals w1 hB _ _
     refine q02 rfl ?_ (q04 rfl)
     kernel_rfl
    ·intro vals w1 hB _ _
     refine q0E (g := g1 && (l[k].known)) (v := Value.slice (some ⟨b, o, none⟩) l.length c) (by generalize (g1 && (l[k].known)) = gz; cases gz <;> kernel_rfl) (fun hg => ?_) (q0B rfl rfl)
     kernel_rfl
    ·intro vals w1 hB _ _
     refine q0E (g := g1 && (l[k].known)) (v := Value.int .i64 ((k : Int))) (by generalize (g1 && (l[k].known)) = gz; cases gz <;> kernel_rfl) (fun hg => ?_) (q0B rfl rfl)
     kernel_rfl
    ·intro vals w1 hB _ hd
     have d41 : vals 17 = (bif g1 && (l[k].known) then .slice (some ⟨b, o, none⟩) l.length c else undef) := hd 17 (by kernel_rfl)
     have d42 : vals 18 = (bif g1 && (l[k].known) then .int .i64 ((k : Int)) else undef) := hd 18 (by kernel_rfl)
     clear hd
     refine q0E (g := g1 && (l[k].known)) (v := Value.pointer (some ⟨b, o + k * 8, none⟩)) (by generalize (g1 && (l[k].known)) = gz; cases gz <;> kernel_rfl) (fun hg => ?_) (q0B rfl rfl)
     rw [hg] at d41 d42
     rw [q0D (d41.trans (show _ = Value.slice (some ⟨b, o, none⟩) l.length c from rfl))]
     rw [q0D (d42.trans (show _ = Value.int .i64 ((k : Int)) from rfl))]
     exact q1C (k := k) (n := l.length) (c := c) rfl (by kernel_rfl) (by kernel_rfl) Try.underlying39 (by kernel_rfl) (by omega)
    ·intro vals w1 hB _ hd
     have d43 : vals 19 = (bif g1 && (l[k].known) then .pointer (some ⟨b, o + k * 8, none⟩) else undef) := hd 19 (by kernel_rfl)
     clear hd
     refine q0E (g := g1 && (l[k].known)) (v := Value.pointer (some ⟨b, o + k * 8 + 2, none⟩)) (by generalize (g1 && (l[k].known)) = gz; cases gz <;> kernel_rfl) (fun hg => ?_) (q0B rfl rfl)
     rw [hg] at d43
     rw [q0D (d43.trans (show _ = Value.pointer (some ⟨b, o + k * 8, none⟩) from rfl))]
     kernel_rfl
    ·intro vals w1 hB _ hd
     have d44 : vals 20 = (bif g1 && (l[k].known) then .pointer (some ⟨b, o + k * 8 + 2, none⟩) else undef) := hd 20 (by kernel_rfl)
     clear hd
     refine q0E (g := g1 && (l[k].known)) (v := Value.int .i64 (l[k].addr)) (by generalize (g1 && (l[k].known)) = gz; cases gz <;> kernel_rfl) (fun hg => ?_) (q0B rfl rfl)
     rw [hg] at d44
     rw [q0D (d44.trans (show _ = Value.pointer (some ⟨b, o + k * 8 + 2, none⟩) from rfl))]
     exact q0A rfl (by kernel_rfl) (HEX.out w1 hB 2 _ rfl) Try.underlying3 rfl
    ·intro vals w1 hB _ _
     refine q0E (g := g1 && (l[k].known)) (v := Value.int .i64 (addr)) (by generalize (g1 && (l[k].known)) = gz; cases gz <;> kernel_rfl) (fun hg => ?_) (q0B rfl rfl)
     kernel_rfl
    ·intro vals w1 hB _ hd
     have d45 : vals 21 = (bif g1 && (l[k].known) then .int .i64 (l[k].addr) else undef) := hd 21 (by kernel_rfl)
     have d46 : vals 22 = (bif g1 && (l[k].known) then .int .i64 (addr) else undef) := hd 22 (by kernel_rfl)
     clear hd
     refine q0E (g := g1 && (l[k].known)) (v := Value.bool g3) (by generalize (g1 && (l[k].known)) = gz; cases gz <;> kernel_rfl) (fun hg => ?_) (q0B rfl rfl)
     rw [hg] at d45 d46
     rw [q0D (d45.trans (show _ = Value.int .i64 (l[k].addr) from rfl))]
     rw [q0D (d46.trans (show _ = Value.int .i64 (addr) from rfl))]
     exact Eq.trans (b := .ok (.value (.bool ((l[k].addr) == (addr)))) w1) (by kernel_rfl) (by rw [HG3.out])
    ·intro vals w1 hB _ hd
     have d47 : vals 23 = (bif g1 && (l[k].known) then .bool g3 else undef) := hd 23 (by kernel_rfl)
     clear hd
     refine q02 rfl ?_ (q04 rfl)
     rw [q0D d47]
     generalize (g1 && (l[k].known)) = gz
     cases gz <;> kernel_rfl
    intro vals w5 b5 _ hr
    clear hr
    simp only [fillT, Tell.is, Tell.draws, Tell.gets, Act.put, List.setIfInBounds_toArray, List.set_cons_zero, List.set_cons_succ]
    have hall2 : (g1 && l[k].known && g3) = false := by simpa using hall
    have B5 := Kept.mk (HB.out.trans (b5.mono (by have := HB.out.size; simp at this; omega)))
    clear b5 hall
    rw [hall2]
    clear hall2
    go_wp2_with fail
    exact ⟨⟨k, by omega, rfl, HF, B5.out⟩, by simp [intOf] <;> omega⟩
def hazL (il : List Inst) (i addr : Int) : List Ent → Nat → Option Nat
 | [], _ => none
 | e :: t, k => if ((instAt il e.pc).kind == 2 && e.known && e.addr == addr && decide (e.frm < i)) = true then some k else hazL il i addr t (k + 1)
def hazOf (il : List Inst) (l : List Ent) (i addr : Int) : Option Nat := hazL il i addr (l.drop (min (max i (-1)) l.length + 1).toNat) (min (max i (-1)) l.length + 1).toNat
set_option maxRecDepth 100000 in
set_option maxHeartbeats 4000000 in
theorem hazard_any (p : Prg) (il : List Inst) (A : Option Addr) (c : Nat) (l : List Ent) (i addr : Int) (w : World) (hp : PIs w p il) (hl : RdE w A l) (hln : l.length ≤ 1000000) :
  Calls Try.prog 97 #[p.v, .slice A l.length c, .int .i64 i, .int .i64 addr] w fun en w' =>
   en = .returned (.tuple #[.int .i64 (((hazOf il l i addr).getD 0 : Nat) : Int), .bool (hazOf il l i addr).isSome]) ∧ Below w.heap.size w w' := by
 have HP := Kept.mk hp
 have HL := Kept.mk hl
 clear hp hl
 unfold hazOf
 obtain ⟨m, hm⟩ : ∃ m : Nat, min (max i (-1)) (l.length : Int) + 1 = (m : Int) := ⟨(min (max i (-1)) (l.length : Int) + 1).toNat, by omega⟩
 rw [hm, Int.toNat_natCast]
 generalize hR : hazL il i addr (l.drop m) m = Rs
 have HR := Kept.mk hR
 clear hR
 have hml : m ≤ l.length + 1 := by omega
 go_enter Try.func97, Try.ntmps97
 go_wp2_with fail
 clear hm
 go_loopw [10] (fun v wr => ∃ k : Nat, k ≤ l.length + 1 ∧ v = .int .i64 (k : Int) ∧ Kept (hazL il i addr (l.drop k) k = Rs) ∧ Below (w.heap.size + 1) (w.alloc (.cells p.cs.toArray 33)) wr) (fun v _ => l.length + 2 - (intOf v).toNat)
 case atStart => exact ⟨m, hml, rfl, HR, Below.refl _ _⟩
 case round =>
  obtain ⟨k, hk, rfl, hre, hb⟩ := hrel
  have HW := Kept.mk ((q00 w (.cells p.cs.toArray 33)).trans (hb.mono (by omega)))
  have HPX := q24 ((hb.block _ (by omega)).trans (heap_alloc_new w (.cells p.cs.toArray 33)))
  have HB := Kept.mk hb
  clear hb
  by_cases hkl : k < l.length
  ·obtain ⟨b, o, rfl, hbb, hel⟩ := (HL.out.past HW.out).el hkl
   have HEX := hel.kept hbb
   clear hel
   have HAT := Kept.mk (fun w1 (h : PIs w1 p il) => at7 p il l[k].pc w1 h)
   have hre2 := hre.out
   clear hre
   rw [List.drop_eq_getElem_cons hkl, hazL] at hre2
   generalize instAt il l[k].pc = I at HAT hre2
   obtain ⟨g1, hg1⟩ : ∃ g, (I.kind == 2) = g := ⟨_, rfl⟩
   obtain ⟨g3, hg3⟩ : ∃ g, (l[k].addr == addr) = g := ⟨_, rfl⟩
   obtain ⟨g4, hg4⟩ : ∃ g, decide (l[k].frm < i) = g := ⟨_, rfl⟩
   rw [hg1, hg3, hg4] at hre2
   have HG1 := Kept.mk hg1
   have HG3 := Kept.mk hg3
   have HG4 := Kept.mk hg4
   clear hg1 hg3 hg4
   have HRE := Kept.mk hre2
   clear hre2
   go_wp2_with fail
   refine q1E (wr.heap.size) (G := fun _ => True) (ts := [
     .is (p.v),
     .is (Value.slice (some ⟨b, o, none⟩) l.length c),
     .is (Value.int .i64 ((k : Int))),
     .is (Value.pointer (some ⟨b, o + k * 8, none⟩)),
     .is (Value.pointer (some ⟨b, o + k * 8, none⟩)),
     .is (Value.int .i64 (l[k].pc)),
     .draws (I.v),
     .is (Value.int .i64 (I.kind)),
     .is (Value.bool g1),
     .is (Value.bool g1),
     .gets (fun v _ => v = (bif g1 then .slice (some ⟨b, o, none⟩) l.length c else undef)),
     .gets (fun v _ => v = (bif g1 then .int .i64 ((k : Int)) else undef)),
     .gets (fun v _ => v = (bif g1 then .pointer (some ⟨b, o + k * 8, none⟩) else undef)),
     .gets (fun v _ => v = (bif g1 then .pointer (some ⟨b, o + k * 8 + 6, none⟩) else undef)),
     .gets (fun v _ => v = (bif g1 then .bool (l[k].known) else undef)),
     .is (Value.bool (g1 && (l[k].known))),
     .is (Value.bool (g1 && (l[k].known))),
     .gets (fun v _ => v = (bif g1 && (l[k].known) then .slice (some ⟨b, o, none⟩) l.length c else undef)),
     .gets (fun v _ => v = (bif g1 && (l[k].known) then .int .i64 ((k : Int)) else undef)),
     .gets (fun v _ => v = (bif g1 && (l[k].known) then .pointer (some ⟨b, o + k * 8, none⟩) else undef)),
     .gets (fun v _ => v = (bif g1 && (l[k].known) then .pointer (some ⟨b, o + k * 8 + 2, none⟩) else undef)),
     .gets (fun v _ => v = (bif g1 && (l[k].known) then .int .i64 (l[k].addr) else undef)),
     .gets (fun v _ => v = (bif g1 && (l[k].known) then .int .i64 (addr) else undef)),
     .gets (fun v _ => v = (bif g1 && (l[k].known) then .bool g3 else undef)),
     .is (Value.bool ((g1 && (l[k].known)) && g3)),
     .is (Value.bool ((g1 && (l[k].known)) && g3)),
     .gets (fun v _ => v = (bif (g1 && (l[k].known)) && g3 then .slice (some ⟨b, o, none⟩) l.length c else undef)),
     .gets (fun v _ => v = (bif (g1 && (l[k].known)) && g3 then .int .i64 ((k : Int)) else undef)),
     .gets (fun v _ => v = (bif (g1 && (l[k].known)) && g3 then .pointer (some ⟨b, o + k * 8, none⟩) else undef)),
     .gets (fun v _ => v = (bif (g1 && (l[k].known)) && g3 then .pointer (some ⟨b, o + k * 8 + 3, none⟩) else undef)),
     .gets (fun v _ => v = (bif (g1 && (l[k].known)) && g3 then .int .i64 (l[k].frm) else undef)),
     .gets (fun v _ => v = (bif (g1 && (l[k].known)) && g3 then .int .i64 (i) else undef)),
     .gets (fun v _ => v = (bif (g1 && (l[k].known)) && g3 then .bool g4 else undef)),
     .is (Value.bool (((g1 && (l[k].known)) && g3) && g4))])
    (fin := []) (cs := []) (by kernel_rfl) rfl (by kernel_rfl) (by kernel_rfl)
    ⟨trivial, trivial, trivial, trivial, trivial, trivial, trivial, trivial, trivial, trivial, q07 _, q07 _, q07 _, q07 _, q07 _, trivial, trivial, q07 _, q07 _, q07 _, q07 _, q07 _, q07 _, q07 _, trivial, trivial, q07 _, q07 _, q07 _, q07 _, q07 _, q07 _, q07 _, trivial, trivial⟩ (fun _ _ _ _ => trivial) (by simp) (by simp) trivial
    ⟨?_, ?_, ?_, ?_, ?_, ?_, ?_, ?_, ?_, ?_, ?_, ?_, ?_, ?_, ?_, ?_, ?_, ?_, ?_, ?_, ?_, ?_, ?_, ?_, ?_, ?_, ?_, ?_, ?_, ?_, ?_, ?_, ?_, ?_, trivial⟩ ?_
   ·intro vals w1 hB _ _
    refine q02 rfl ?_ (q04 rfl)
    exact q09 rfl (b := w.heap.size) (off := 0) (by kernel_rfl) p.cs (HPX.out w1 hB) Try.underlying33 rfl (by kernel_rfl)
   ·intro vals w1 hB _ _
    refine q02 rfl ?_ (q04 rfl)
    kernel_rfl
   ·intro vals w1 hB _ _
    refine q02 rfl ?_ (q04 rfl)
    kernel_rfl
   ·intro vals w1 hB _ _
    refine q02 rfl ?_ (q04 rfl)
    exact q1C (k := k) (n := l.length) (c := c) rfl (by kernel_rfl) (by kernel_rfl) Try.underlying39 (by kernel_rfl) (by omega)
   ·intro vals w1 hB _ _
    refine q02 rfl ?_ (q04 rfl)
    kernel_rfl
   ·intro vals w1 hB _ _
    refine q02 rfl ?_ (q04 rfl)
    exact q0A rfl (by kernel_rfl) (HEX.out w1 hB 0 _ rfl) Try.underlying3 rfl
   ·intro vals w1 hB _ _
    refine q12 (f := 62) (args := #[p.v, .int .i64 (l[k].pc)]) (w1 := w1) rfl (by kernel_rfl) ?_
    refine (HAT.out w1 ((HP.out.past HW.out).past hB)).mono ?_
    rintro e1 w2 ⟨rfl, h2⟩
    exact ⟨_, rfl, q18 rfl h2⟩
   ·intro vals w1 hB _ _
    refine q02 rfl ?_ (q04 rfl)
    kernel_rfl
   ·intro vals w1 hB _ _
    refine q02 rfl ?_ (q04 rfl)
    exact Eq.trans (b := .ok (.value (.bool ((I.kind) == (2)))) w1) (by kernel_rfl) (by rw [HG1.out])
   ·intro vals w1 hB _ _
    refine q02 rfl ?_ (q04 rfl)
    kernel_rfl
   ·intro vals w1 hB _ _
    refine q0E (g := g1) (v := Value.slice (some ⟨b, o, none⟩) l.length c) (by generalize g1 = gz; cases gz <;> kernel_rfl) (fun hg => ?_) (q0B rfl rfl)
    kernel_rfl
   ·intro vals w1 hB _ _
    refine q0E (g := g1) (v := Value.int .i64 ((k : Int))) (by generalize g1 = gz; cases gz <;> kernel_rfl) (fun hg => ?_) (q0B rfl rfl)
    kernel_rfl
   ·intro vals w1 hB _ hd
    have d33 : vals 10 = (bif g1 then .slice (some ⟨b, o, none⟩) l.length c else undef) := hd 10 (by kernel_rfl)
    have d34 : vals 11 = (bif g1 then .int .i64 ((k : Int)) else undef) := hd 11 (by kernel_rfl)
    clear hd
    refine q0E (g := g1) (v := Value.pointer (some ⟨b, o + k * 8, none⟩)) (by generalize g1 = gz; cases gz <;> kernel_rfl) (fun hg => ?_) (q0B rfl rfl)
    rw [hg] at d33 d34
    rw [q0D (d33.trans (show _ = Value.slice (some ⟨b, o, none⟩) l.length c from rfl))]
    rw [q0D (d34.trans (show _ = Value.int .i64 ((k : Int)) from rfl))]
    exact q1C (k := k) (n := l.length) (c := c) rfl (by kernel_rfl) (by kernel_rfl) Try.underlying39 (by kernel_rfl) (by omega)
   ·intro vals w1 hB _ hd
    have d35 : vals 12 = (bif g1 then .pointer (some ⟨b, o + k * 8, none⟩) else undef) := hd 12 (by kernel_rfl)
    clear hd
    refine q0E (g := g1) (v := Value.pointer (some ⟨b, o + k * 8 + 6, none⟩)) (by generalize g1 = gz; cases gz <;> kernel_rfl) (fun hg => ?_) (q0B rfl rfl)
    rw [hg] at d35
    rw [q0D (d35.trans (show _ = Value.pointer (some ⟨b, o + k * 8, none⟩) from rfl))]
    kernel_rfl
   ·intro vals w1 hB _ hd
    have d36 : vals 13 = (bif g1 then .pointer (some ⟨b, o + k * 8 + 6, none⟩) else undef) := hd 13 (by kernel_rfl)
    clear hd
    refine q0E (g := g1) (v := Value.bool (l[k].known)) (by generalize g1 = gz; cases gz <;> kernel_rfl) (fun hg => ?_) (q0B rfl rfl)
    rw [hg] at d36
    rw [q0D (d36.trans (show _ = Value.pointer (some ⟨b, o + k * 8 + 6, none⟩) from rfl))]
    exact q0A rfl (by kernel_rfl) (HEX.out w1 hB 6 _ rfl) Try.underlying4 rfl
   ·intro vals w1 hB _ hd
    have d37 : vals 14 = (bif g1 then .bool (l[k].known) else undef) := hd 14 (by kernel_rfl)
    clear hd
    refine q02 rfl ?_ (q04 rfl)
    rw [q0D d37]
    generalize g1 = gz
    cases gz <;> kernel_rfl
   ·intro vals w1 hB _ _
    refine q02 rfl ?_ (q04 rfl)
    kernel_rfl
   ·intro vals w1 hB _ _
    refine q0E (g := g1 && (l[k].known)) (v := Value.slice (some ⟨b, o, none⟩) l.length c) (by generalize (g1 && (l[k].known)) = gz; cases gz <;> kernel_rfl) (fun hg => ?_) (q0B rfl rfl)
    kernel_rfl
   ·intro vals w1 hB _ _
    refine q0E (g := g1 && (l[k].known)) (v := Value.int .i64 ((k : Int))) (by generalize (g1 && (l[k].known)) = gz; cases gz <;> kernel_rfl) (fun hg => ?_) (q0B rfl rfl)
    kernel_rfl
   ·intro vals w1 hB _ hd
    have d40 : vals 17 = (bif g1 && (l[k].known) then .slice (some ⟨b, o, none⟩) l.length c else undef) := hd 17 (by kernel_rfl)
    have d41 : vals 18 = (bif g1 && (l[k].known) then .int .i64 ((k : Int)) else undef) := hd 18 (by kernel_rfl)
    clear hd
    refine q0E (g := g1 && (l[k].known)) (v := Value.pointer (some ⟨b, o + k * 8, none⟩)) (by generalize (g1 && (l[k].known)) = gz; cases gz <;> kernel_rfl) (fun hg => ?_) (q0B rfl rfl)
    rw [hg] at d40 d41
    rw [q0D (d40.trans (show _ = Value.slice (some ⟨b, o, none⟩) l.length c from rfl))]
    rw [q0D (d41.trans (show _ = Value.int .i64 ((k : Int)) from rfl))]
    exact q1C (k := k) (n := l.length) (c := c) rfl (by kernel_rfl) (by kernel_rfl) Try.underlying39 (by kernel_rfl) (by omega)
   ·intro vals w1 hB _ hd
    have d42 : vals 19 = (bif g1 && (l[k].known) then .pointer (some ⟨b, o + k * 8, none⟩) else undef) := hd 19 (by kernel_rfl)
    clear hd
    refine q0E (g := g1 && (l[k].known)) (v := Value.pointer (some ⟨b, o + k * 8 + 2, none⟩)) (by generalize (g1 && (l[k].known)) = gz; cases gz <;> kernel_rfl) (fun hg => ?_) (q0B rfl rfl)
    rw [hg] at d42
    rw [q0D (d42.trans (show _ = Value.pointer (some ⟨b, o + k * 8, none⟩) from rfl))]
    kernel_rfl
   ·intro vals w1 hB _ hd
    have d43 : vals 20 = (bif g1 && (l[k].known) then .pointer (some ⟨b, o + k * 8 + 2, none⟩) else undef) := hd 20 (by kernel_rfl)
    clear hd
    refine q0E (g := g1 && (l[k].known)) (v := Value.int .i64 (l[k].addr)) (by generalize (g1 && (l[k].known)) = gz; cases gz <;> kernel_rfl) (fun hg => ?_) (q0B rfl rfl)
    rw [hg] at d43
    rw [q0D (d43.trans (show _ = Value.pointer (some ⟨b, o + k * 8 + 2, none⟩) from rfl))]
    exact q0A rfl (by kernel_rfl) (HEX.out w1 hB 2 _ rfl) Try.underlying3 rfl
   ·intro vals w1 hB _ _
    refine q0E (g := g1 && (l[k].known)) (v := Value.int .i64 (addr)) (by generalize (g1 && (l[k].known)) = gz; cases gz <;> kernel_rfl) (fun hg => ?_) (q0B rfl rfl)
    kernel_rfl
   ·intro vals w1 hB _ hd
    have d44 : vals 21 = (bif g1 && (l[k].known) then .int .i64 (l[k].addr) else undef) := hd 21 (by kernel_rfl)
    have d45 : vals 22 = (bif g1 && (l[k].known) then .int .i64 (addr) else undef) := hd 22 (by kernel_rfl)
    clear hd
    refine q0E (g := g1 && (l[k].known)) (v := Value.bool g3) (by generalize (g1 && (l[k].known)) = gz; cases gz <;> kernel_rfl) (fun hg => ?_) (q0B rfl rfl)
    rw [hg] at d44 d45
    rw [q0D (d44.trans (show _ = Value.int .i64 (l[k].addr) from rfl))]
    rw [q0D (d45.trans (show _ = Value.int .i64 (addr) from rfl))]
    exact Eq.trans (b := .ok (.value (.bool ((l[k].addr) == (addr)))) w1) (by kernel_rfl) (by rw [HG3.out])
   ·intro vals w1 hB _ hd
    have d46 : vals 23 = (bif g1 && (l[k].known) then .bool g3 else undef) := hd 23 (by kernel_rfl)
    clear hd
    refine q02 rfl ?_ (q04 rfl)
    rw [q0D d46]
    generalize (g1 && (l[k].known)) = gz
    cases gz <;> kernel_rfl
   ·intro vals w1 hB _ _
    refine q02 rfl ?_ (q04 rfl)
    kernel_rfl
   ·intro vals w1 hB _ _
    refine q0E (g := (g1 && (l[k].known)) && g3) (v := Value.slice (some ⟨b, o, none⟩) l.length c) (by generalize ((g1 && (l[k].known)) && g3) = gz; cases gz <;> kernel_rfl) (fun hg => ?_) (q0B rfl rfl)
    kernel_rfl
   ·intro vals w1 hB _ _
    refine q0E (g := (g1 && (l[k].known)) && g3) (v := Value.int .i64 ((k : Int))) (by generalize ((g1 && (l[k].known)) && g3) = gz; cases gz <;> kernel_rfl) (fun hg => ?_) (q0B rfl rfl)
    kernel_rfl
   ·intro vals w1 hB _ hd
    have d49 : vals 26 = (bif (g1 && (l[k].known)) && g3 then .slice (some ⟨b, o, none⟩) l.length c else undef) := hd 26 (by kernel_rfl)
    have d50 : vals 27 = (bif (g1 && (l[k].known)) && g3 then .int .i64 ((k : Int)) else undef) := hd 27 (by kernel_rfl)
    clear hd
    refine q0E (g := (g1 && (l[k].known)) && g3) (v := Value.pointer (some ⟨b, o + k * 8, none⟩)) (by generalize ((g1 && (l[k].known)) && g3) = gz; cases gz <;> kernel_rfl) (fun hg => ?_) (q0B rfl rfl)
    rw [hg] at d49 d50
    rw [q0D (d49.trans (show _ = Value.slice (some ⟨b, o, none⟩) l.length c from rfl))]
    rw [q0D (d50.trans (show _ = Value.int .i64 ((k : Int)) from rfl))]
    exact q1C (k := k) (n := l.length) (c := c) rfl (by kernel_rfl) (by kernel_rfl) Try.underlying39 (by kernel_rfl) (by omega)
   ·intro vals w1 hB _ hd
    have d51 : vals 28 = (bif (g1 && (l[k].known)) && g3 then .pointer (some ⟨b, o + k * 8, none⟩) else undef) := hd 28 (by kernel_rfl)
    clear hd
    refine q0E (g := (g1 && (l[k].known)) && g3) (v := Value.pointer (some ⟨b, o + k * 8 + 3, none⟩)) (by generalize ((g1 && (l[k].known)) && g3) = gz; cases gz <;> kernel_rfl) (fun hg => ?_) (q0B rfl rfl)
    rw [hg] at d51
    rw [q0D (d51.trans (show _ = Value.pointer (some ⟨b, o + k * 8, none⟩) from rfl))]
    kernel_rfl
   ·intro vals w1 hB _ hd
    have d52 : vals 29 = (bif (g1 && (l[k].known)) && g3 then .pointer (some ⟨b, o + k * 8 + 3, none⟩) else undef) := hd 29 (by kernel_rfl)
    clear hd
    refine q0E (g := (g1 && (l[k].known)) && g3) (v := Value.int .i64 (l[k].frm)) (by generalize ((g1 && (l[k].known)) && g3) = gz; cases gz <;> kernel_rfl) (fun hg => ?_) (q0B rfl rfl)
    rw [hg] at d52
    rw [q0D (d52.trans (show _ = Value.pointer (some ⟨b, o + k * 8 + 3, none⟩) from rfl))]
    exact q0A rfl (by kernel_rfl) (HEX.out w1 hB 3 _ rfl) Try.underlying3 rfl
   ·intro vals w1 hB _ _
    refine q0E (g := (g1 && (l[k].known)) && g3) (v := Value.int .i64 (i)) (by generalize ((g1 && (l[k].known)) && g3) = gz; cases gz <;> kernel_rfl) (fun hg => ?_) (q0B rfl rfl)
    kernel_rfl
   ·intro vals w1 hB _ hd
    have d53 : vals 30 = (bif (g1 && (l[k].known)) && g3 then .int .i64 (l[k].frm) else undef) := hd 30 (by kernel_rfl)
    have d54 : vals 31 = (bif (g1 && (l[k].known)) && g3 then .int .i64 (i) else undef) := hd 31 (by kernel_rfl)
    clear hd
    refine q0E (g := (g1 && (l[k].known)) && g3) (v := Value.bool g4) (by generalize ((g1 && (l[k].known)) && g3) = gz; cases gz <;> kernel_rfl) (fun hg => ?_) (q0B rfl rfl)
    rw [hg] at d53 d54
    rw [q0D (d53.trans (show _ = Value.int .i64 (l[k].frm) from rfl))]
    rw [q0D (d54.trans (show _ = Value.int .i64 (i) from rfl))]
    exact Eq.trans (b := .ok (.value (.bool (decide ((l[k].frm) < (i))))) w1) (by kernel_rfl) (by rw [HG4.out])
   ·intro vals w1 hB _ hd
    have d55 : vals 32 = (bif (g1 && (l[k].known)) && g3 then .bool g4 else undef) := hd 32 (by kernel_rfl)
    clear hd
    refine q02 rfl ?_ (q04 rfl)
    rw [q0D d55]
    generalize ((g1 && (l[k].known)) && g3) = gz
    cases gz <;> kernel_rfl
   intro vals w5 b5 _ hr
   clear hr
   simp only [fillT, Tell.is, Tell.draws, Tell.gets, Act.put, List.setIfInBounds_toArray, List.set_cons_zero, List.set_cons_succ]
   obtain ⟨gg, hgg⟩ : ∃ g, (g1 && l[k].known && g3 && g4) = g := ⟨_, rfl⟩
   rw [hgg]
   rw [hgg] at HRE
   have W5 := Kept.mk (HW.out.trans (b5.mono HW.out.size))
   have B5 := Kept.mk (HB.out.trans (b5.mono (by have := HB.out.size; simp at this; omega)))
   clear b5 hgg
   cases gg with
   | true =>
    have HF := Kept.mk (HRE.out.symm.trans (if_pos rfl))
    clear HRE
    go_wp2_with fail
    go_ret2
    exact ⟨by rw [HF.out]; rfl, W5.out⟩
   | false =>
    have HF : Kept (hazL il i addr (l.drop (k + 1)) (k + 1) = Rs) := ⟨by rw [← HRE.out, if_neg (by simp)]⟩
    clear HRE
    go_wp2_with fail
    exact ⟨⟨k + 1, by omega, by go_num, HF, B5.out⟩, by simp [intOf] <;> omega⟩
  ·have HF : Kept (Rs = none) := ⟨by rw [← hre.out, List.drop_eq_nil_of_le (by omega), hazL]⟩
   clear hre
   go_wp2_with fail
   go_ret2
   exact ⟨by rw [HF.out]; rfl, HW.out⟩
end
section
set_option maxRecDepth 100000 in
set_option maxHeartbeats 4000000 in
theorem can_not (p : Prg) (il : List Inst) (c : Cnf) (m : Conf) (i : Int) (w : World) (hp : PIs w p il) (hc : CfIs w c m) (hln : m.buf.length ≤ 1000000) (ho : openOf il m i = false) :
  Calls Try.prog 68 #[p.v, c.v, .int .i64 i] w fun en w' => en = .returned (.bool false) ∧ Below w.heap.size w w' := by
 have HC := Kept.mk hc
 have HP := Kept.mk hp
 have HO := Kept.mk ho
 obtain ⟨⟨r0, r1, r2, r3, ⟨mA, mN, mC⟩, ⟨sA, sN, sC⟩, pc⟩, ⟨bA, bN, bC⟩, ⟨qA, qN, qC⟩, fin⟩ := c
 clear hc hp ho
 go_enter Try.func68, Try.ntmps68
 go_wp2_with fail
 have HB := Kept.mk ((q00 w (.cells p.cs.toArray 33)).alloc (by simp) (.cells (Cnf.cs ⟨⟨r0, r1, r2, r3, ⟨mA, mN, mC⟩, ⟨sA, sN, sC⟩, pc⟩, ⟨bA, bN, bC⟩, ⟨qA, qN, qC⟩, fin⟩).toArray 41))
 refine (open_any p il ⟨⟨r0, r1, r2, r3, ⟨mA, mN, mC⟩, ⟨sA, sN, sC⟩, pc⟩, ⟨bA, bN, bC⟩, ⟨qA, qN, qC⟩, fin⟩ m i _ (HP.out.past HB.out) (HC.out.past HB.out) hln).mono ?_
 rintro en w1 ⟨rfl, b1⟩
 have B1 := Kept.mk (HB.out.trans (b1.mono HB.out.size))
 rw [HO.out]
 clear b1 HO
 go_wp2_with fail
 go_ret
 exact ⟨rfl, B1.out⟩
set_option maxRecDepth 100000 in
set_option maxHeartbeats 4000000 in
theorem canAddr_not (p : Prg) (il : List Inst) (c : Cnf) (m : Conf) (i : Int) (w : World) (hp : PIs w p il) (hc : CfIs w c m) (hln : m.buf.length ≤ 1000000) (ho : openOf il m i = false) :
  Calls Try.prog 69 #[p.v, c.v, .int .i64 i] w fun en w' => en = .returned (.bool false) ∧ Below w.heap.size w w' := by
 have HC := Kept.mk hc
 have HP := Kept.mk hp
 have HO := Kept.mk ho
 obtain ⟨⟨r0, r1, r2, r3, ⟨mA, mN, mC⟩, ⟨sA, sN, sC⟩, pc⟩, ⟨bA, bN, bC⟩, ⟨qA, qN, qC⟩, fin⟩ := c
 clear hc hp ho
 go_enter Try.func69, Try.ntmps69
 go_wp2_with fail
 have HB := Kept.mk ((q00 w (.cells p.cs.toArray 33)).alloc (by simp) (.cells (Cnf.cs ⟨⟨r0, r1, r2, r3, ⟨mA, mN, mC⟩, ⟨sA, sN, sC⟩, pc⟩, ⟨bA, bN, bC⟩, ⟨qA, qN, qC⟩, fin⟩).toArray 41))
 refine (open_any p il ⟨⟨r0, r1, r2, r3, ⟨mA, mN, mC⟩, ⟨sA, sN, sC⟩, pc⟩, ⟨bA, bN, bC⟩, ⟨qA, qN, qC⟩, fin⟩ m i _ (HP.out.past HB.out) (HC.out.past HB.out) hln).mono ?_
 rintro en w1 ⟨rfl, b1⟩
 have B1 := Kept.mk (HB.out.trans (b1.mono HB.out.size))
 rw [HO.out]
 clear b1 HO
 go_wp2_with fail
 go_ret
 exact ⟨rfl, B1.out⟩
def canIn (W : Int) (il : List Inst) (m : Conf) (i : Int) (x : Inst) : Bool :=
 let a := aOf W il m i x
 let b := bOf W il m i x
 let d := dOf il m i x
 let addr := maskW W (a.1 + b.1)
 if x.kind = 1 ∨ x.kind = 5 then a.2 && b.2 else if x.kind = 4 then (a.2 && b.2) && d.2
 else if x.kind = 2 then (a.2 && b.2) && (decide ((m.st.mem.length : Int) ≤ addr) || (loadOf il m.buf m.st.mem i addr).2.2)
 else if x.kind = 3 then d.2 else if x.kind = 7 then a.2 else x.kind == 9
def canOf (W : Int) (il : List Inst) (m : Conf) (i : Int) : Bool :=
 if openOf il m i = true then (match m.buf[i.toNat]? with | some e => if e.done then false else canIn W il m i (instAt il e.pc) | none => false) else false
set_option maxRecDepth 100000 in
set_option maxHeartbeats 4000000 in
theorem can_at (p : Prg) (il : List Inst) (c : Cnf) (m : Conf) (k : Nat) (hk : k < m.buf.length) (w : World) (hp : PIs w p il) (hW : p.W = 1 ∨ p.W = 2) (hc : CfIs w c m) (hln : m.buf.length ≤ 1000000) (hml : m.st.mem.length ≤ 1000000) (ho : openOf il m k = true) :
  Calls Try.prog 68 #[p.v, c.v, .int .i64 (k : Int)] w fun en w' => en = .returned (.bool (if m.buf[k].done then false else canIn p.W il m k (instAt il m.buf[k].pc))) ∧ Below w.heap.size w w' := by
 have HC := Kept.mk hc
 have HP := Kept.mk hp
 have HO := Kept.mk (fun w1 h1 h2 => open_any p il c m k w1 h1 h2 hln)
 rw [ho] at HO
 have hfin : m.fin = 0 := by
  unfold openOf at ho
  simp only [Bool.and_eq_true, decide_eq_true_eq] at ho
  exact ho.1.1
 have HT := Kept.mk (fun x w1 h1 h2 => told_any p il c m k x w1 h1 hW h2 hln)
 have HV := Kept.mk (fun r0 r1 r2 r3 A cc l i vr vn w1 h1 h2 h3 => val_any p il r0 r1 r2 r3 A cc l i vr vn w1 h1 hW h2 h3)
 have HLo := Kept.mk (fun addr A1 c1 A2 c2 w1 h1 h2 h3 => load_any p il A1 c1 m.st.mem A2 c2 m.buf k addr w1 h1 h2 hml h3 hln)
 have HM := Kept.mk (fun n w1 => q23 p.W n hW w1)
 have HMw : Kept (∀ (n : Int) (w : World), Calls Try.prog 73 #[.int .i64 p.W, .int .i64 (wrap64 n)] w fun en w' => en = .returned (.int .i64 (maskW p.W n)) ∧ w = w') := ⟨fun n w => by have := q23 p.W (wrap64 n) hW w; rwa [q32 p.W n hW] at this⟩
 clear ho hp hW
 obtain ⟨⟨r0, r1, r2, r3, ⟨mA, mN, mC⟩, ⟨sA, sN, sC⟩, pc⟩, ⟨bA, bN, bC⟩, ⟨qA, qN, qC⟩, fin⟩ := c
 obtain ⟨⟨q0, q1, q2, q3, mem, stack, qc⟩, l, rsb, qf⟩ := m
 obtain ⟨⟨h0, h1, h2, h3, ⟨hmn, hmc, hmr⟩, hstk, hpc⟩, ⟨hbn, hbc, hbr⟩, hrsb, hf⟩ := hc
 simp only at h0 h1 h2 h3 hpc hf hbn hbc hbr hln hmn hmc hmr hml
 subst h0 h1 h2 h3 hpc hf hbn hmn
 subst hfin
 obtain ⟨b, o, rfl, hbb, hel⟩ := hbr.el hk
 clear hrsb hstk hmr hbr
 simp only at hk HT HO HLo HC ⊢
 have HEX0 := hel.kept hbb
 clear hel
 generalize hx : instAt il l[k].pc = x
 have HAT : Kept (∀ w1, PIs w1 p il → Calls Try.prog 62 #[p.v, .int .i64 l[k].pc] w1 fun en w' => en = .returned x.v ∧ Below w1.heap.size w1 w') := ⟨fun w1 h => by rw [← hx]; exact at7 p il l[k].pc w1 h⟩
 clear hx
 generalize hres : (if l[k].done = true then false else canIn p.W il ⟨⟨r0, r1, r2, r3, mem, stack, pc⟩, l, rsb, 0⟩ k x) = RES
 have HRES := Kept.mk hres
 clear hres
 have HB := Kept.mk ((q00 w (.cells p.cs.toArray 33)).alloc (by simp) (.cells (Cnf.cs ⟨⟨r0, r1, r2, r3, ⟨mA, mem.length, mC⟩, ⟨sA, sN, sC⟩, pc⟩, ⟨some ⟨b, o, none⟩, l.length, bC⟩, ⟨qA, qN, qC⟩, 0⟩).toArray 41))
 go_enter Try.func68, Try.ntmps68
 go_wp2_with fail
 refine (HO.out _ (HP.out.past HB.out) (HC.out.past HB.out)).mono ?_
 rintro en wr ⟨rfl, b1⟩
 have HW := Kept.mk (HB.out.trans (b1.mono HB.out.size))
 have X0 := (b1.block w.heap.size (by simp; omega)).trans ((heap_alloc_old _ _ (by simp)).trans (heap_alloc_new w (.cells p.cs.toArray 33)))
 have X1 := (b1.block (w.heap.size + 1) (by simp)).trans (heap_alloc2_new w (.cells p.cs.toArray 33) (.cells (Cnf.cs ⟨⟨r0, r1, r2, r3, ⟨mA, mem.length, mC⟩, ⟨sA, sN, sC⟩, pc⟩, ⟨some ⟨b, o, none⟩, l.length, bC⟩, ⟨qA, qN, qC⟩, 0⟩).toArray 41))
 have HPX := q24 X0
 have HCX := q24 X1
 have HEX : Kept (∀ w1, Below wr.heap.size wr w1 → CellsAt w1 b (o + k * 8) l[k].cs) := ⟨fun w1 h => HEX0.out w1 (HW.out.trans (h.mono HW.out.size))⟩
 have Y0 := fun j => cell_of_row wr w.heap.size j _ _ _ X0
 have Y1 := fun j => cell_of_row wr (w.heap.size + 1) j _ _ _ X1
 simp only [Prg.cs, Cnf.cs] at Y0 Y1
 have KX0 := Kept.mk X0
 have KX1 := Kept.mk X1
 have c5 := HEX.out wr (Below.refl _ _) 5 (.bool l[k].done) rfl
 clear X0 X1 b1
 cases hdn : l[k].done with
 | true =>
  rw [hdn] at c5
  have HF := Kept.mk (HRES.out.symm.trans (if_pos hdn))
  clear hdn HRES
  go_wp2_with fail
  go_ret
  exact ⟨by rw [HF.out]; rfl, HW.out⟩
 | false =>
  rw [hdn] at c5
  have HF := Kept.mk (HRES.out.symm.trans (if_neg (by rw [hdn]; simp)))
  clear hdn HRES
  go_wp2_with fail
  clear c5 Y0 Y1
  refine q35 [] [(9, 8, BoxHas (wr.heap.size) 53 x.cs)] (wr.heap.size) (G := fun _ => True) (ts := [
    .is (p.v),
    .is (Value.pointer (some ⟨w.heap.size + 1, 7, none⟩)),
    .is (Value.slice (some ⟨b, o, none⟩) l.length bC),
    .is (Value.int .i64 ((k : Int))),
    .is (Value.pointer (some ⟨b, o + k * 8, none⟩)),
    .is (Value.pointer (some ⟨b, o + k * 8, none⟩)),
    .is (Value.int .i64 (l[k].pc)),
    .draws (x.v),
    .makes (IsBox (wr.heap.size) 53 9),
    .sets (BoxStep 53 9)])
   (fin := []) (cs := [(9, 8)]) (by simp) (by kernel_rfl) ?lg (by kernel_rfl) rfl (by kernel_rfl) (by kernel_rfl)
   ⟨trivial, trivial, trivial, trivial, trivial, trivial, trivial, trivial, IsBox.grows, (fun _ _ _ _ _ => trivial), trivial⟩ (fun _ _ _ _ => trivial) ?cs (by simp) trivial
   ⟨?_, ?_, ?_, ?_, ?_, ?_, ?_, ?_, ?_, ?_, trivial⟩ ?_
  case lg =>
   intro q hq
   simp only [List.mem_cons, List.not_mem_nil, or_false] at hq
   rcases hq with rfl
   ·exact BoxHas.grows
  case cs =>
   intro p hp v w1 w2 hG hR hE
   simp only [List.mem_cons, List.not_mem_nil, or_false] at hp
   rcases hp with rfl
   ·exact IsBox.kept hR hE
  ·intro vals w1 hB _ _
   refine q02 rfl ?_ ⟨q04 rfl, q10 (by simp) rfl⟩
   exact q09 rfl (b := w.heap.size) (off := 0) (by kernel_rfl) p.cs (HPX.out w1 hB) Try.underlying33 rfl (by kernel_rfl)
  ·intro vals w1 hB _ _
   refine q02 rfl ?_ ⟨q04 rfl, q10 (by simp) rfl⟩
   kernel_rfl
  ·intro vals w1 hB _ _
   refine q02 rfl ?_ ⟨q04 rfl, q10 (by simp) rfl⟩
   exact q0A rfl (by kernel_rfl) (HCX.out w1 hB 7 _ rfl) Try.underlying39 rfl
  ·intro vals w1 hB _ _
   refine q02 rfl ?_ ⟨q04 rfl, q10 (by simp) rfl⟩
   kernel_rfl
  ·intro vals w1 hB _ _
   refine q02 rfl ?_ ⟨q04 rfl, q10 (by simp) rfl⟩
   exact q1C (k := k) (n := l.length) (c := bC) rfl (by kernel_rfl) (by kernel_rfl) Try.underlying39 (by kernel_rfl) (by omega)
  ·intro vals w1 hB _ _
   refine q02 rfl ?_ ⟨q04 rfl, q10 (by simp) rfl⟩
   kernel_rfl
  ·intro vals w1 hB _ _
   refine q02 rfl ?_ ⟨q04 rfl, q10 (by simp) rfl⟩
   exact q0A rfl (by kernel_rfl) (HEX.out w1 hB 0 _ rfl) Try.underlying3 rfl
  ·intro vals w1 hB _ _
   refine q12 (f := 62) (args := #[p.v, .int .i64 (l[k].pc)]) (w1 := w1) rfl (by kernel_rfl) ?_
   refine (HAT.out w1 ((HP.out.past HW.out).past hB)).mono ?_
   rintro e1 w2 ⟨rfl, h2⟩
   exact ⟨_, rfl, q18 rfl h2, q10 (by simp) rfl⟩
  ·intro vals w1 hB _ _
   refine q1D (v := .pointer (some ⟨w1.heap.size, 0, none⟩)) (w' := w1.alloc (.cells #[Value.int .i64 (0), Value.int .i64 (0), Value.int .i64 (0), Value.bool false, Value.int .i64 (0), Value.bool false, Value.int .i64 (0), Value.string ⟨#[]⟩, Value.int .i64 (0)] 53)) rfl (by kernel_rfl) ⟨q21 rfl ⟨w1.heap.size, _, rfl, hB.size, rfl, heap_alloc_new w1 _⟩ (q00 _ _), q10 (by simp) rfl⟩
  ·intro vals w1 hB _ hd
   have d0 : IsBox (wr.heap.size) 53 9 (vals 8) w1 := hd 8 (by kernel_rfl)
   clear hd
   obtain ⟨b0, cs0, e0, hb0, hn0, hh0⟩ := d0
   obtain ⟨w2, hr2, hw2, hg2⟩ := q1B (P := Try.prog) (ty := 53) (x.v) x.cs rfl hh0 hn0 rfl (by kernel_rfl)
   refine q14 (w' := w2) rfl ?_ ⟨q15 rfl (hB.grown hg2 (by have := hB.size; omega) (fun k hk => by injection hk with hk; omega)) trivial hg2.size ⟨b0, _, ⟨cs0, hn0, hh0⟩, rfl, hw2, hg2⟩, tellx_turns (by simp) ?_⟩
   ·rw [q0D e0]
    exact q13 rfl (by kernel_rfl) (by kernel_rfl) hr2
   ·intro q hq
    simp only [List.mem_cons, List.not_mem_nil, or_false] at hq
    rcases hq with rfl
    ·exact ⟨fun _ => ⟨b0, e0, hb0, hw2⟩, fun h => absurd rfl h⟩
  intro vals w5 b5 _ _ hlk hr
  obtain ⟨bx7, ebx7, hbx7, HBX7⟩ : BoxHas (wr.heap.size) 53 x.cs (vals 8) w5 := hlk _ (List.mem_cons_self ..)
  clear hlk
  clear hr
  simp only [fillT, Tell.is, Tell.draws, Tell.makes, Act.put, List.setIfInBounds_toArray, List.set_cons_zero, List.set_cons_succ, ebx7]
  clear ebx7
  have W5 := Kept.mk (HW.out.trans (b5.mono HW.out.size))
  have X0 := q01 KX0.out b5
  have X1 := q01 KX1.out b5
  have Y0 := fun j => cell_of_row w5 w.heap.size j _ _ _ X0
  have Y1 := fun j => cell_of_row w5 (w.heap.size + 1) j _ _ _ X1
  have Y2 := fun j => cell_of_row w5 bx7 j _ _ _ HBX7
  simp only [Prg.cs, Cnf.cs, Inst.cs] at Y0 Y1 Y2
  clear KX0 KX1
  have KX0 := Kept.mk X0
  have KX1 := Kept.mk X1
  have KX2 := Kept.mk HBX7
  clear X0 X1 HBX7 b5
  go_wp2_with fail
  refine (HT.out x _ (HP.out.past W5.out) (HC.out.past W5.out)).mono ?_
  rintro en w6 ⟨rfl, b6⟩
  have W6 := Kept.mk (W5.out.trans (b6.mono W5.out.size))
  have X0 := q01 KX0.out b6
  have X1 := q01 KX1.out b6
  have X2 := q01 KX2.out b6
  clear Y0 Y1 Y2 KX0 KX1 KX2 b6
  have Y0 := fun j => cell_of_row w6 w.heap.size j _ _ _ X0
  have Y1 := fun j => cell_of_row w6 (w.heap.size + 1) j _ _ _ X1
  have Y2 := fun j => cell_of_row w6 bx7 j _ _ _ X2
  simp only [Prg.cs, Cnf.cs, Inst.cs] at Y0 Y1 Y2
  have KX1b := Kept.mk X1
  clear X0 X1 X2
  have hF := HF.out
  clear HF
  unfold canIn at hF
  simp only at hF
  have HA := Kept.mk (show aOf p.W il ⟨⟨r0, r1, r2, r3, mem, stack, pc⟩, l, rsb, 0⟩ k x = valOf p.W il r0 r1 r2 r3 l k x.ar x.an from rfl)
  generalize aOf p.W il ⟨⟨r0, r1, r2, r3, mem, stack, pc⟩, l, rsb, 0⟩ k x = a at HA hF ⊢
  generalize bOf p.W il ⟨⟨r0, r1, r2, r3, mem, stack, pc⟩, l, rsb, 0⟩ k x = bb at hF ⊢
  generalize dOf il ⟨⟨r0, r1, r2, r3, mem, stack, pc⟩, l, rsb, 0⟩ k x = d at hF ⊢
  obtain ⟨a1, a2⟩ := a
  obtain ⟨b1, b2⟩ := bb
  obtain ⟨d1, d2⟩ := d
  simp only at HA hF ⊢
  obtain ⟨kind, op, xd, ar, an, br, bn, name, target⟩ := x
  simp only at HA hF Y2 ⊢
  have HF := Kept.mk hF
  clear hF
  by_cases hk1 : kind = 1
  ·have HG := Kept.mk (HF.out.trans (if_pos (.inl hk1)))
   subst hk1
   clear HF
   go_wp2_with fail
   go_ret
   exact ⟨by rw [HG.out]; rfl, W6.out⟩
  by_cases hk5 : kind = 5
  ·have HG := Kept.mk (HF.out.trans (if_pos (.inr hk5)))
   subst hk5
   clear HF
   go_wp2_with fail
   go_ret
   exact ⟨by rw [HG.out]; rfl, W6.out⟩
  have HF4 := Kept.mk (HF.out.trans (if_neg (by omega)))
  have k1 : (kind == 1) = false := by simp [hk1]
  have k5 : (kind == 5) = false := by simp [hk5]
  by_cases hk4 : kind = 4
  ·have HG := Kept.mk (HF4.out.trans (if_pos hk4))
   subst hk4
   clear HF HF4
   cases hab : (a2 && b2)
   all_goals
    rw [hab] at HG
    go_wp2_with fail
    go_ret
    exact ⟨by rw [HG.out]; rfl, W6.out⟩
  have HF2 := Kept.mk (HF4.out.trans (if_neg hk4))
  have k4 : (kind == 4) = false := by simp [hk4]
  by_cases hk2 : kind = 2
  ·have HG := Kept.mk (HF2.out.trans (if_pos hk2))
   subst hk2
   clear HF HF4 HF2 Y1
   have Y1 := fun j => cell_of_row w6 (w.heap.size + 1) j _ _ _ KX1b.out
   simp only [Cnf.cs] at Y1
   go_wp2_with fail
   refine (HMw.out _ _).mono ?_
   rintro en w' ⟨rfl, rfl⟩
   generalize maskW p.W (a1 + b1) = addr at HG ⊢
   go_wp2_with fail
   refine (HLo.out addr _ _ _ _ _ (HP.out.past W6.out) (HC.out.past W6.out).st.mem.r (HC.out.past W6.out).buf.r).mono ?_
   rintro en w7 ⟨rfl, b7⟩
   have W7 := Kept.mk (W6.out.trans (b7.mono W6.out.size))
   have X1 := q01 KX1b.out b7
   have Y1 := fun j => cell_of_row w7 (w.heap.size + 1) j _ _ _ X1
   simp only [Cnf.cs] at Y1
   clear X1 KX1b b7
   generalize loadOf il l mem k addr = L at HG ⊢
   obtain ⟨l1, l2, l3⟩ := L
   simp only at HG ⊢
   cases hab : (a2 && b2) with
   | false =>
    rw [hab] at HG
    go_wp2_with fail
    go_ret
    exact ⟨by rw [HG.out]; rfl, W7.out⟩
   | true =>
    rw [hab] at HG
    by_cases hln2 : (mem.length : Int) ≤ addr
    ·rw [decide_eq_true hln2] at HG
     go_wp2_with fail
     go_ret
     exact ⟨by rw [HG.out]; rfl, W7.out⟩
    ·rw [decide_eq_false hln2] at HG
     go_wp2_with fail
     go_ret
     exact ⟨by rw [HG.out]; rfl, W7.out⟩
  have HF3 := Kept.mk (HF2.out.trans (if_neg hk2))
  have k2 : (kind == 2) = false := by simp [hk2]
  by_cases hk3 : kind = 3
  ·have HG := Kept.mk (HF3.out.trans (if_pos hk3))
   subst hk3
   clear HF HF4 HF2 HF3
   go_wp2_with fail
   go_ret
   exact ⟨by rw [HG.out]; rfl, W6.out⟩
  have HF7 := Kept.mk (HF3.out.trans (if_neg hk3))
  have k3 : (kind == 3) = false := by simp [hk3]
  by_cases hk7 : kind = 7
  ·have HG := Kept.mk (HF7.out.trans (if_pos hk7))
   subst hk7
   clear HF HF4 HF2 HF3 HF7
   have HV2 := Kept.mk (fun w1 h1 h2 => HV.out r0 r1 r2 r3 (some ⟨b, o, none⟩) bC l k ar an w1 h1 h2 hln)
   rw [← HA.out] at HV2
   go_wp2_with fail
   refine (HV2.out _ (HP.out.past W6.out) (HC.out.past W6.out).buf.r).mono ?_
   rintro en w7 ⟨rfl, b7⟩
   go_wp2_with fail
   go_ret
   exact ⟨by rw [HG.out]; rfl, W6.out.trans (b7.mono W6.out.size)⟩
  have HG := Kept.mk (HF7.out.trans (if_neg hk7))
  have k7 : (kind == 7) = false := by simp [hk7]
  clear hk1 hk5 hk4 hk2 hk3 hk7 HF HF4 HF2 HF3 HF7
  go_wp2_with fail
  go_ret
  exact ⟨by rw [HG.out]; rfl, W6.out⟩
def canAddrIn (W : Int) (il : List Inst) (m : Conf) (i : Int) (x : Inst) : Bool := (x.kind == 3) && ((aOf W il m i x).2 && (bOf W il m i x).2)
def canAddrOf (W : Int) (il : List Inst) (m : Conf) (i : Int) : Bool :=
 if openOf il m i = true then (match m.buf[i.toNat]? with | some e => if e.known then false else canAddrIn W il m i (instAt il e.pc) | none => false) else false
set_option maxRecDepth 100000 in
set_option maxHeartbeats 4000000 in
theorem canAddr_at (p : Prg) (il : List Inst) (c : Cnf) (m : Conf) (k : Nat) (hk : k < m.buf.length) (w : World) (hp : PIs w p il) (hW : p.W = 1 ∨ p.W = 2) (hc : CfIs w c m) (hln : m.buf.length ≤ 1000000) (ho : openOf il m k = true) :
  Calls Try.prog 69 #[p.v, c.v, .int .i64 (k : Int)] w fun en w' => en = .returned (.bool (if m.buf[k].known then false else canAddrIn p.W il m k (instAt il m.buf[k].pc))) ∧ Below w.heap.size w w' := by
 have HC := Kept.mk hc
 have HP := Kept.mk hp
 have HO := Kept.mk (fun w1 h1 h2 => open_any p il c m k w1 h1 h2 hln)
 rw [ho] at HO
 have hfin : m.fin = 0 := by
  unfold openOf at ho
  simp only [Bool.and_eq_true, decide_eq_true_eq] at ho
  exact ho.1.1
 have HT := Kept.mk (fun x w1 h1 h2 => told_any p il c m k x w1 h1 hW h2 hln)
 clear ho hp hW
 obtain ⟨⟨r0, r1, r2, r3, ⟨mA, mN, mC⟩, ⟨sA, sN, sC⟩, pc⟩, ⟨bA, bN, bC⟩, ⟨qA, qN, qC⟩, fin⟩ := c
 obtain ⟨⟨q0, q1, q2, q3, mem, stack, qc⟩, l, rsb, qf⟩ := m
 obtain ⟨⟨h0, h1, h2, h3, ⟨hmn, hmc, hmr⟩, hstk, hpc⟩, ⟨hbn, hbc, hbr⟩, hrsb, hf⟩ := hc
 simp only at h0 h1 h2 h3 hpc hf hbn hbc hbr hln hmn hmc hmr
 subst h0 h1 h2 h3 hpc hf hbn hmn
 subst hfin
 obtain ⟨b, o, rfl, hbb, hel⟩ := hbr.el hk
 clear hrsb hstk hmr hbr
 simp only at hk HT HO HC ⊢
 have HEX0 := hel.kept hbb
 clear hel
 generalize hx : instAt il l[k].pc = x
 have HAT : Kept (∀ w1, PIs w1 p il → Calls Try.prog 62 #[p.v, .int .i64 l[k].pc] w1 fun en w' => en = .returned x.v ∧ Below w1.heap.size w1 w') := ⟨fun w1 h => by rw [← hx]; exact at7 p il l[k].pc w1 h⟩
 clear hx
 generalize hres : (if l[k].known = true then false else canAddrIn p.W il ⟨⟨r0, r1, r2, r3, mem, stack, pc⟩, l, rsb, 0⟩ k x) = RES
 have HRES := Kept.mk hres
 clear hres
 have HB := Kept.mk ((q00 w (.cells p.cs.toArray 33)).alloc (by simp) (.cells (Cnf.cs ⟨⟨r0, r1, r2, r3, ⟨mA, mem.length, mC⟩, ⟨sA, sN, sC⟩, pc⟩, ⟨some ⟨b, o, none⟩, l.length, bC⟩, ⟨qA, qN, qC⟩, 0⟩).toArray 41))
 go_enter Try.func69, Try.ntmps69
 go_wp2_with fail
 refine (HO.out _ (HP.out.past HB.out) (HC.out.past HB.out)).mono ?_
 rintro en wr ⟨rfl, b1⟩
 have HW := Kept.mk (HB.out.trans (b1.mono HB.out.size))
 have X0 := (b1.block w.heap.size (by simp; omega)).trans ((heap_alloc_old _ _ (by simp)).trans (heap_alloc_new w (.cells p.cs.toArray 33)))
 have X1 := (b1.block (w.heap.size + 1) (by simp)).trans (heap_alloc2_new w (.cells p.cs.toArray 33) (.cells (Cnf.cs ⟨⟨r0, r1, r2, r3, ⟨mA, mem.length, mC⟩, ⟨sA, sN, sC⟩, pc⟩, ⟨some ⟨b, o, none⟩, l.length, bC⟩, ⟨qA, qN, qC⟩, 0⟩).toArray 41))
 have HPX := q24 X0
 have HCX := q24 X1
 have HEX : Kept (∀ w1, Below wr.heap.size wr w1 → CellsAt w1 b (o + k * 8) l[k].cs) := ⟨fun w1 h => HEX0.out w1 (HW.out.trans (h.mono HW.out.size))⟩
 have Y0 := fun j => cell_of_row wr w.heap.size j _ _ _ X0
 have Y1 := fun j => cell_of_row wr (w.heap.size + 1) j _ _ _ X1
 simp only [Prg.cs, Cnf.cs] at Y0 Y1
 have KX0 := Kept.mk X0
 have KX1 := Kept.mk X1
 have c6 := HEX.out wr (Below.refl _ _) 6 (.bool l[k].known) rfl
 clear X0 X1 b1
 cases hdn : l[k].known with
 | true =>
  rw [hdn] at c6
  have HF := Kept.mk (HRES.out.symm.trans (if_pos hdn))
  clear hdn HRES
  go_wp2_with fail
  go_ret
  exact ⟨by rw [HF.out]; rfl, HW.out⟩
 | false =>
  rw [hdn] at c6
  have HF := Kept.mk (HRES.out.symm.trans (if_neg (by rw [hdn]; simp)))
  clear hdn HRES
  go_wp2_with fail
  clear c6 Y0 Y1
  refine q35 [] [(9, 8, BoxHas (wr.heap.size) 53 x.cs)] (wr.heap.size) (G := fun _ => True) (ts := [
    .is (p.v),
    .is (Value.pointer (some ⟨w.heap.size + 1, 7, none⟩)),
    .is (Value.slice (some ⟨b, o, none⟩) l.length bC),
    .is (Value.int .i64 ((k : Int))),
    .is (Value.pointer (some ⟨b, o + k * 8, none⟩)),
    .is (Value.pointer (some ⟨b, o + k * 8, none⟩)),
    .is (Value.int .i64 (l[k].pc)),
    .draws (x.v),
    .makes (IsBox (wr.heap.size) 53 9),
    .sets (BoxStep 53 9)])
   (fin := []) (cs := [(9, 8)]) (by simp) (by kernel_rfl) ?lg (by kernel_rfl) rfl (by kernel_rfl) (by kernel_rfl)
   ⟨trivial, trivial, trivial, trivial, trivial, trivial, trivial, trivial, IsBox.grows, (fun _ _ _ _ _ => trivial), trivial⟩ (fun _ _ _ _ => trivial) ?cs (by simp) trivial
   ⟨?_, ?_, ?_, ?_, ?_, ?_, ?_, ?_, ?_, ?_, trivial⟩ ?_
  case lg =>
   intro q hq
   simp only [List.mem_cons, List.not_mem_nil, or_false] at hq
   rcases hq with rfl
   ·exact BoxHas.grows
  case cs =>
   intro p hp v w1 w2 hG hR hE
   simp only [List.mem_cons, List.not_mem_nil, or_false] at hp
   rcases hp with rfl
   ·exact IsBox.kept hR hE
  ·intro vals w1 hB _ _
   refine q02 rfl ?_ ⟨q04 rfl, q10 (by simp) rfl⟩
   exact q09 rfl (b := w.heap.size) (off := 0) (by kernel_rfl) p.cs (HPX.out w1 hB) Try.underlying33 rfl (by kernel_rfl)
  ·intro vals w1 hB _ _
   refine q02 rfl ?_ ⟨q04 rfl, q10 (by simp) rfl⟩
   kernel_rfl
  ·intro vals w1 hB _ _
   refine q02 rfl ?_ ⟨q04 rfl, q10 (by simp) rfl⟩
   exact q0A rfl (by kernel_rfl) (HCX.out w1 hB 7 _ rfl) Try.underlying39 rfl
  ·intro vals w1 hB _ _
   refine q02 rfl ?_ ⟨q04 rfl, q10 (by simp) rfl⟩
   kernel_rfl
  ·intro vals w1 hB _ _
   refine q02 rfl ?_ ⟨q04 rfl, q10 (by simp) rfl⟩
   exact q1C (k := k) (n := l.length) (c := bC) rfl (by kernel_rfl) (by kernel_rfl) Try.underlying39 (by kernel_rfl) (by omega)
  ·intro vals w1 hB _ _
   refine q02 rfl ?_ ⟨q04 rfl, q10 (by simp) rfl⟩
   kernel_rfl
  ·intro vals w1 hB _ _
   refine q02 rfl ?_ ⟨q04 rfl, q10 (by simp) rfl⟩
   exact q0A rfl (by kernel_rfl) (HEX.out w1 hB 0 _ rfl) Try.underlying3 rfl
  ·intro vals w1 hB _ _
   refine q12 (f := 62) (args := #[p.v, .int .i64 (l[k].pc)]) (w1 := w1) rfl (by kernel_rfl) ?_
   refine (HAT.out w1 ((HP.out.past HW.out).past hB)).mono ?_
   rintro e1 w2 ⟨rfl, h2⟩
   exact ⟨_, rfl, q18 rfl h2, q10 (by simp) rfl⟩
  ·intro vals w1 hB _ _
   refine q1D (v := .pointer (some ⟨w1.heap.size, 0, none⟩)) (w' := w1.alloc (.cells #[Value.int .i64 (0), Value.int .i64 (0), Value.int .i64 (0), Value.bool false, Value.int .i64 (0), Value.bool false, Value.int .i64 (0), Value.string ⟨#[]⟩, Value.int .i64 (0)] 53)) rfl (by kernel_rfl) ⟨q21 rfl ⟨w1.heap.size, _, rfl, hB.size, rfl, heap_alloc_new w1 _⟩ (q00 _ _), q10 (by simp) rfl⟩
  ·intro vals w1 hB _ hd
   have d0 : IsBox (wr.heap.size) 53 9 (vals 8) w1 := hd 8 (by kernel_rfl)
   clear hd
   obtain ⟨b0, cs0, e0, hb0, hn0, hh0⟩ := d0
   obtain ⟨w2, hr2, hw2, hg2⟩ := q1B (P := Try.prog) (ty := 53) (x.v) x.cs rfl hh0 hn0 rfl (by kernel_rfl)
   refine q14 (w' := w2) rfl ?_ ⟨q15 rfl (hB.grown hg2 (by have := hB.size; omega) (fun k hk => by injection hk with hk; omega)) trivial hg2.size ⟨b0, _, ⟨cs0, hn0, hh0⟩, rfl, hw2, hg2⟩, tellx_turns (by simp) ?_⟩
   ·rw [q0D e0]
    exact q13 rfl (by kernel_rfl) (by kernel_rfl) hr2
   ·intro q hq
    simp only [List.mem_cons, List.not_mem_nil, or_false] at hq
    rcases hq with rfl
    ·exact ⟨fun _ => ⟨b0, e0, hb0, hw2⟩, fun h => absurd rfl h⟩
  intro vals w5 b5 _ _ hlk hr
  obtain ⟨bx7, ebx7, hbx7, HBX7⟩ : BoxHas (wr.heap.size) 53 x.cs (vals 8) w5 := hlk _ (List.mem_cons_self ..)
  clear hlk
  clear hr
  simp only [fillT, Tell.is, Tell.draws, Tell.makes, Act.put, List.setIfInBounds_toArray, List.set_cons_zero, List.set_cons_succ, ebx7]
  clear ebx7
  have W5 := Kept.mk (HW.out.trans (b5.mono HW.out.size))
  have X0 := q01 KX0.out b5
  have X1 := q01 KX1.out b5
  have Y0 := fun j => cell_of_row w5 w.heap.size j _ _ _ X0
  have Y1 := fun j => cell_of_row w5 (w.heap.size + 1) j _ _ _ X1
  have Y2 := fun j => cell_of_row w5 bx7 j _ _ _ HBX7
  simp only [Prg.cs, Cnf.cs, Inst.cs] at Y0 Y1 Y2
  clear KX0 KX1
  have KX0 := Kept.mk X0
  have KX1 := Kept.mk X1
  have KX2 := Kept.mk HBX7
  clear X0 X1 HBX7 b5
  go_wp2_with fail
  refine (HT.out x _ (HP.out.past W5.out) (HC.out.past W5.out)).mono ?_
  rintro en w6 ⟨rfl, b6⟩
  have W6 := Kept.mk (W5.out.trans (b6.mono W5.out.size))
  have X0 := q01 KX0.out b6
  have X1 := q01 KX1.out b6
  have X2 := q01 KX2.out b6
  clear Y0 Y1 Y2 KX0 KX1 KX2 b6
  have Y0 := fun j => cell_of_row w6 w.heap.size j _ _ _ X0
  have Y1 := fun j => cell_of_row w6 (w.heap.size + 1) j _ _ _ X1
  have Y2 := fun j => cell_of_row w6 bx7 j _ _ _ X2
  simp only [Prg.cs, Cnf.cs, Inst.cs] at Y0 Y1 Y2
  clear X0 X1 X2
  have hF := HF.out
  clear HF
  unfold canAddrIn at hF
  generalize aOf p.W il ⟨⟨r0, r1, r2, r3, mem, stack, pc⟩, l, rsb, 0⟩ k x = a at hF ⊢
  generalize bOf p.W il ⟨⟨r0, r1, r2, r3, mem, stack, pc⟩, l, rsb, 0⟩ k x = bb at hF ⊢
  generalize dOf il ⟨⟨r0, r1, r2, r3, mem, stack, pc⟩, l, rsb, 0⟩ k x = d at hF ⊢
  obtain ⟨a1, a2⟩ := a
  obtain ⟨b1, b2⟩ := bb
  obtain ⟨d1, d2⟩ := d
  simp only at hF ⊢
  obtain ⟨kind, op, xd, ar, an, br, bn, name, target⟩ := x
  simp only at hF Y2 ⊢
  have HF := Kept.mk hF
  clear hF
  by_cases hk3 : kind = 3
  ·subst hk3
   go_wp2_with fail
   go_ret
   exact ⟨by rw [HF.out]; rfl, W6.out⟩
  ·have k3 : (kind == 3) = false := by simp [hk3]
   have HG : Kept (RES = false) := ⟨by rw [HF.out, k3]; rfl⟩
   clear hk3 HF
   go_wp2_with fail
   go_ret
   exact ⟨by rw [HG.out]; rfl, W6.out⟩
theorem open_bounds {il : List Inst} {m : Conf} {i : Int} (h : openOf il m i = true) : ∃ k : Nat, i = k ∧ k < m.buf.length := by
 unfold openOf at h
 simp only [Bool.and_eq_true, decide_eq_true_eq] at h
 exact ⟨i.toNat, by omega, by omega⟩
theorem can_any (p : Prg) (il : List Inst) (c : Cnf) (m : Conf) (i : Int) (w : World) (hp : PIs w p il) (hW : p.W = 1 ∨ p.W = 2) (hc : CfIs w c m) (hln : m.buf.length ≤ 1000000) (hml : m.st.mem.length ≤ 1000000) :
  Calls Try.prog 68 #[p.v, c.v, .int .i64 i] w fun en w' => en = .returned (.bool (canOf p.W il m i)) ∧ Below w.heap.size w w' := by
 unfold canOf
 cases ho : openOf il m i with
 | false => exact can_not p il c m i w hp hc hln ho
 | true =>
  obtain ⟨k, rfl, hk⟩ := open_bounds ho
  rw [if_pos rfl, Int.toNat_natCast, List.getElem?_eq_getElem hk]
  exact can_at p il c m k hk w hp hW hc hln hml ho
theorem canAddr_any (p : Prg) (il : List Inst) (c : Cnf) (m : Conf) (i : Int) (w : World) (hp : PIs w p il) (hW : p.W = 1 ∨ p.W = 2) (hc : CfIs w c m) (hln : m.buf.length ≤ 1000000) :
  Calls Try.prog 69 #[p.v, c.v, .int .i64 i] w fun en w' => en = .returned (.bool (canAddrOf p.W il m i)) ∧ Below w.heap.size w w' := by
 unfold canAddrOf
 cases ho : openOf il m i with
 | false => exact canAddr_not p il c m i w hp hc hln ho
 | true =>
  obtain ⟨k, rfl, hk⟩ := open_bounds ho
  rw [if_pos rfl, Int.toNat_natCast, List.getElem?_eq_getElem hk]
  exact canAddr_at p il c m k hk w hp hW hc hln ho
def canRetE (x : Inst) (e : Ent) : Bool := (e.done || x.kind == 10) && (x.kind != 3 || e.known)
def canRetOf (il : List Inst) (m : Conf) : Bool := match m.buf with | [] => false | e :: _ => decide (m.fin = 0) && canRetE (instAt il e.pc) e
set_option maxRecDepth 100000 in
set_option maxHeartbeats 4000000 in
theorem canRet_any (p : Prg) (il : List Inst) (c : Cnf) (m : Conf) (w : World) (hp : PIs w p il) (hc : CfIs w c m) (hln : m.buf.length ≤ 1000000) :
  Calls Try.prog 67 #[p.v, c.v] w fun en w' => en = .returned (.bool (canRetOf il m)) ∧ Below w.heap.size w w' := by
 have HP := Kept.mk hp
 clear hp
 obtain ⟨⟨r0, r1, r2, r3, ⟨mA, mN, mC⟩, ⟨sA, sN, sC⟩, pc⟩, ⟨bA, bN, bC⟩, ⟨qA, qN, qC⟩, fin⟩ := c
 obtain ⟨⟨q0, q1, q2, q3, mem, stack, qc⟩, l, rsb, qf⟩ := m
 obtain ⟨⟨h0, h1, h2, h3, ⟨hmn, hmc, hmr⟩, hstk, hpc⟩, ⟨hbn, hbc, hbr⟩, hrsb, hf⟩ := hc
 simp only at h0 h1 h2 h3 hpc hf hbn hbc hbr hln hmn hmc hmr
 subst h0 h1 h2 h3 hpc hf hbn hmn
 clear hstk hrsb hmr
 cases l with
 | nil =>
  simp only [canRetOf, List.length_nil] at *
  by_cases hf : fin = 0
  ·subst hf
   go_enter Try.func67, Try.ntmps67
   go_wp2_with fail
   go_ret
   exact ⟨rfl, by go_grown⟩
  ·have hf' : (fin != 0) = true := by simp [hf]
   clear hf
   go_enter Try.func67, Try.ntmps67
   go_wp2_with fail
   go_ret
   exact ⟨rfl, by go_grown⟩
 | cons e t =>
  obtain ⟨b, o, rfl, hbb, hel⟩ := hbr.el (k := 0) (by simp)
  simp only [Nat.zero_mul, Nat.add_zero, List.getElem_cons_zero] at hel
  clear hbr
  simp only [canRetOf]
  by_cases hf : fin = 0
  ·subst hf
   rw [decide_eq_true rfl, Bool.true_and]
   generalize hx : instAt il e.pc = x
   have HAT : Kept (∀ w1, PIs w1 p il → Calls Try.prog 62 #[p.v, .int .i64 e.pc] w1 fun en w' => en = .returned x.v ∧ Below w1.heap.size w1 w') := ⟨fun w1 h => by rw [← hx]; exact at7 p il e.pc w1 h⟩
   clear hx
   have c0 := hel 0 _ rfl
   have c1 := hel 1 _ rfl
   have c2 := hel 2 _ rfl
   have c3 := hel 3 _ rfl
   have c4 := hel 4 _ rfl
   have c5 := hel 5 _ rfl
   have c6 := hel 6 _ rfl
   have c7 := hel 7 _ rfl
   simp only [Nat.add_zero] at c0
   clear hel
   have hne0 : b ≠ w.heap.size := by omega
   have hne1 : b ≠ w.heap.size + 1 := by omega
   generalize hres : canRetE x e = RES
   have HRES := Kept.mk hres
   clear hres
   have hlen : 0 < (e :: t).length := by simp
   generalize (e :: t).length = n at *
   have hn0 : (n == 0) = false := by simp; omega
   have hn0' : ((n : Int) == 0) = false := by simp; omega
   go_enter Try.func67, Try.ntmps67
   go_wp2_with fail
   have HB := Kept.mk (((q00 w (.cells p.cs.toArray 33)).alloc (by simp) (.cells (Cnf.cs ⟨⟨r0, r1, r2, r3, ⟨mA, mem.length, mC⟩, ⟨sA, sN, sC⟩, pc⟩, ⟨some ⟨b, o, none⟩, n, bC⟩, ⟨qA, qN, qC⟩, 0⟩).toArray 41)).alloc (by simp; omega) (.cells e.cs.toArray 55))
   refine (HAT.out _ (HP.out.past HB.out)).mono ?_
   rintro en w1 ⟨rfl, b1⟩
   have X2 := (b1.block (w.heap.size + 1 + 1) (by simp)).trans (q06 (o := (.cells e.cs.toArray 55)) (by simp))
   have Y2 := fun j => cell_of_row w1 (w.heap.size + 1 + 1) j _ _ _ X2
   simp only [Ent.cs] at Y2
   have B1 := Kept.mk (HB.out.trans (b1.mono HB.out.size))
   clear X2 b1 c0 c1 c2 c3 c4 c5 c6 c7
   obtain ⟨kind, op, xd, ar, an, br, bn, name, target⟩ := x
   obtain ⟨epc, ev, ea, ef, en, ed, ek, eflt⟩ := e
   simp only at Y2
   have hR := HRES.out
   clear HRES
   simp only [canRetE] at hR
   have HR := Kept.mk hR
   clear hR
   cases ed
   all_goals
    by_cases hk3 : kind = 3
    ·subst hk3
     cases ek
     all_goals
      go_wp2_with fail
      go_ret
      exact ⟨by rw [← HR.out]; rfl, B1.out⟩
    ·have k3 : (kind != 3) = true := by simp [hk3]
     clear hk3
     by_cases hk10 : kind = 10
     ·subst hk10
      go_wp2_with fail
      go_ret
      exact ⟨by rw [← HR.out]; rfl, B1.out⟩
     ·have k10 : (kind == 10) = false := by simp [hk10]
      clear hk10
      have HR2 := HR.out
      rw [k3, k10] at HR2
      have HQ := Kept.mk HR2
      clear HR2 HR
      go_wp2_with fail
      go_ret
      exact ⟨by rw [← HQ.out]; rfl, B1.out⟩
  ·have hf' : (fin != 0) = true := by simp [hf]
   rw [decide_eq_false hf, Bool.false_and]
   clear hf
   go_enter Try.func67, Try.ntmps67
   go_wp2_with fail
   go_ret
   exact ⟨rfl, by go_grown⟩
end
section
def guessesOf (win : Int) (il : List Inst) (m : Conf) : Int :=
 if m.fin ≠ 0 ∨ m.st.pc = -1 ∨ win ≤ m.buf.length then 0 else
  (if (instAt il m.st.pc).kind = 5 then 2 else if (instAt il m.st.pc).kind = 7 ∨ ((instAt il m.st.pc).kind = 9 ∧ m.rsb = []) then (il.length : Int) + 1 else 1)
set_option maxRecDepth 100000 in
set_option maxHeartbeats 4000000 in
theorem guesses_ref (p : Prg) (il : List Inst) (c : Cnf) (m : Conf) (w : World) (hp : PIs w p il) (hc : CfIs w c m) (hln : m.buf.length ≤ 1000000) (hrl : m.rsb.length ≤ 1000000) :
  Calls Try.prog 44 #[p.v, c.v] w fun en w' => en = .returned (.int .i64 (guessesOf p.window il m)) ∧ Below w.heap.size w w' := by
 have HP := Kept.mk hp
 have HN := Kept.mk hp.n
 have hpm := hp.m
 clear hp
 obtain ⟨⟨r0, r1, r2, r3, ⟨mA, mN, mC⟩, ⟨sA, sN, sC⟩, pc⟩, ⟨bA, bN, bC⟩, ⟨qA, qN, qC⟩, fin⟩ := c
 obtain ⟨⟨q0, q1, q2, q3, mem, stack, qc⟩, l, rsb, qf⟩ := m
 obtain ⟨⟨h0, h1, h2, h3, hmem, hstk, hpc⟩, ⟨hbn, hbc, hbr⟩, ⟨hqn, hqc, hqr⟩, hf⟩ := hc
 simp only at h0 h1 h2 h3 hpc hf hbn hbc hbr hln hqn hqc hqr hrl
 subst h0 h1 h2 h3 hpc hf hbn hqn
 clear hmem hstk hbr hqr
 unfold guessesOf
 simp only
 have HB := Kept.mk ((q00 w (.cells p.cs.toArray 33)).alloc (by simp) (.cells (Cnf.cs ⟨⟨r0, r1, r2, r3, ⟨mA, mN, mC⟩, ⟨sA, sN, sC⟩, pc⟩, ⟨bA, l.length, bC⟩, ⟨qA, rsb.length, qC⟩, fin⟩).toArray 41))
 by_cases hf : fin = 0
 case neg =>
  have hf' : (fin != 0) = true := by simp [hf]
  rw [if_pos (.inl hf)]
  clear hf
  go_enter Try.func44, Try.ntmps44
  go_wp2_with fail
  go_ret
  exact ⟨rfl, by go_grown⟩
 subst hf
 by_cases hpc : pc = -1
 case pos =>
  subst hpc
  rw [if_pos (.inr (.inl rfl))]
  go_enter Try.func44, Try.ntmps44
  go_wp2_with fail
  go_ret
  exact ⟨rfl, HB.out⟩
 have hpc' : (pc == -1) = false := by simp [hpc]
 by_cases hwn : p.window ≤ (l.length : Int)
 case pos =>
  rw [if_pos (.inr (.inr hwn))]
  clear hpc
  go_enter Try.func44, Try.ntmps44
  go_wp2_with fail
  go_ret
  exact ⟨rfl, HB.out⟩
 rw [if_neg (by omega)]
 generalize hx : instAt il pc = x
 have HAT : Kept (∀ w1, PIs w1 p il → Calls Try.prog 62 #[p.v, .int .i64 pc] w1 fun en w' => en = .returned x.v ∧ Below w1.heap.size w1 w') := ⟨fun w1 h => by rw [← hx]; exact at7 p il pc w1 h⟩
 clear hx hpc
 obtain ⟨kind, op, xd, ar, an, br, bn, name, target⟩ := x
 simp only
 generalize hres : (if kind = 5 then (2 : Int) else if kind = 7 ∨ (kind = 9 ∧ rsb = []) then (il.length : Int) + 1 else 1) = RES
 have HRES := Kept.mk hres
 clear hres
 go_enter Try.func44, Try.ntmps44
 go_wp2_with fail
 refine (HAT.out _ (HP.out.past HB.out)).mono ?_
 rintro en w1 ⟨rfl, b1⟩
 have X0 := (b1.block w.heap.size (by simp; omega)).trans ((heap_alloc_old _ _ (by simp)).trans (heap_alloc_new w (.cells p.cs.toArray 33)))
 have X1 := (b1.block (w.heap.size + 1) (by simp)).trans (heap_alloc2_new w (.cells p.cs.toArray 33) (.cells (Cnf.cs ⟨⟨r0, r1, r2, r3, ⟨mA, mN, mC⟩, ⟨sA, sN, sC⟩, pc⟩, ⟨bA, l.length, bC⟩, ⟨qA, rsb.length, qC⟩, 0⟩).toArray 41))
 have Y0 := fun j => cell_of_row w1 w.heap.size j _ _ _ X0
 have Y1 := fun j => cell_of_row w1 (w.heap.size + 1) j _ _ _ X1
 simp only [Prg.cs, Cnf.cs] at Y0 Y1
 have W1 := Kept.mk (HB.out.trans (b1.mono HB.out.size))
 clear X0 X1 b1
 by_cases hk5 : kind = 5
 ·have HG := Kept.mk (HRES.out.symm.trans (if_pos hk5))
  subst hk5
  clear HRES
  go_wp2_with fail
  go_ret
  exact ⟨by rw [HG.out]; rfl, W1.out⟩
 have HR2 := Kept.mk (HRES.out.symm.trans (if_neg hk5))
 have k5 : (kind == 5) = false := by simp [hk5]
 by_cases hk7 : kind = 7
 ·have HG := Kept.mk (HR2.out.trans (if_pos (.inl hk7)))
  subst hk7
  clear HRES HR2
  have hn1 : (p.n : Int) + 1 ≤ 1001 := by omega
  go_wp2_with fail
  go_ret
  exact ⟨by rw [HG.out, ← HN.out]; rfl, W1.out⟩
 have k7 : (kind == 7) = false := by simp [hk7]
 by_cases hk9 : kind = 9
 ·subst hk9
  cases rsb with
  | nil =>
   have HG := Kept.mk (HR2.out.trans (if_pos (.inr ⟨rfl, rfl⟩)))
   clear HRES HR2
   go_wp2_with fail
   go_ret
   exact ⟨by rw [HG.out, ← HN.out]; rfl, W1.out⟩
  | cons z t =>
   have HG : Kept (RES = 1) := ⟨HR2.out.trans (if_neg (fun h => by
    rcases h with h | h
    ·exact absurd h (by omega)
    ·exact absurd h.2 (by simp)))⟩
   have hz : ((z :: t).length : Int) ≠ 0 := by simp only [List.length_cons]; omega
   have hz' : (((z :: t).length : Int) == 0) = false := by rw [beq_eq_false_iff_ne]; exact hz
   generalize (z :: t).length = n at *
   clear HRES HR2 hz
   go_wp2_with fail
   go_ret
   exact ⟨by rw [HG.out]; rfl, W1.out⟩
 have k9 : (kind == 9) = false := by simp [hk9]
 have HG := Kept.mk (HR2.out.trans (if_neg (by omega)))
 clear HRES HR2 hk5 hk7 hk9
 go_wp2_with fail
 go_ret
 exact ⟨by rw [HG.out]; rfl, W1.out⟩
end
section
theorem q11 {w : World} {g : Nat} {t : TypeId} (old e : Cnf) (h : w.heap[g]? = some (.cells old.cs.toArray t (0, 0))) :
  ((((((((((w.setCell ⟨g, 0, none⟩ (.int .i64 e.st.r0)).setCell ⟨g, 1, none⟩ (.int .i64 e.st.r1)).setCell ⟨g, 2, none⟩ (.int .i64 e.st.r2)).setCell ⟨g, 3, none⟩ (.int .i64 e.st.r3)).setCell ⟨g, 4, none⟩ (.slice e.st.mem.A e.st.mem.n e.st.mem.c)).setCell ⟨g, 5, none⟩ (.slice e.st.stack.A e.st.stack.n e.st.stack.c)).setCell ⟨g, 6, none⟩ (.int .i64 e.st.pc)).setCell
   ⟨g, 7, none⟩ (.slice e.buf.A e.buf.n e.buf.c)).setCell ⟨g, 8, none⟩ (.slice e.rsb.A e.rsb.n e.rsb.c)).setCell ⟨g, 9, none⟩ (.int .i64 e.fin)).heap[g]? = some (.cells e.cs.toArray t (0, 0)) := by
 rw [heap_setCell_same _ g 9 _ t _ (heap_setCell_same _ g 8 _ t _ (heap_setCell_same _ g 7 _ t _ (heap_setCell_same _ g 6 _ t _ (heap_setCell_same _ g 5 _ t _ (heap_setCell_same _ g 4 _ t _ (heap_setCell_same _ g 3 _ t _ (heap_setCell_same _ g 2 _ t _ (heap_setCell_same _ g 1 _ t _ (heap_setCell_same _ g 0 _ t _ h)))))))))]
 simp [Cnf.cs]
theorem q03 {w : World} {g : Nat} {p : Addr} {u : Value} {x : Option Obj} (h : w.heap[g]? = x) (hp : p.block ≠ g) : (w.setCell p u).heap[g]? = x := (heap_setCell_other w p g u (Ne.symm hp)).trans h
theorem q1A {a w : World} (h : Below a.heap.size a w) (row : Option Nat) : a.grownBy w row := ⟨h.os, h.tape, h.output, h.size, fun i hi _ => h.block i hi⟩
theorem cut_ent_run (A : Option Addr) (n c k : Nat) (hk : k ≤ n) (hc : n ≤ c) (w : World) : (Instr.slice 39 (.slice A n c) none (some (.int .i64 (k : Int))) none).run Try.prog w = .ok (.slice A k c) w := by
 obtain ⟨i, hi, -⟩ := info_parts info_ent
 have := run_cut_to (P := Try.prog) 39 55 i Try.underlying39 hi A n c (k : Int) (by omega) (by omega) hc w
 simpa using this
def goesBuf (l : List Ent) (k : Nat) (tgt : Int) : List Ent := match l[k]? with | some e => if e.next = tgt then l else (l.set k { e with next := tgt }).take (k + 1) | none => l
def goesPc (l : List Ent) (k : Nat) (tgt pc : Int) : Int := match l[k]? with | some e => if e.next = tgt then pc else tgt | none => pc
def GoesPost (B : Nat) (c : Cnf) (l' : List Ent) (pc' : Int) (w : World) (en : Ending) (w' : World) : Prop := ∃ ov : Value, en = .returned (.tuple #[(Cnf.mk { c.st with pc := pc' } ⟨c.buf.A, l'.length, c.buf.c⟩ c.rsb c.fin).v, ov]) ∧
 OwnE w' B (.slice c.buf.A l'.length c.buf.c) l' ∧ Below B w w' ∧ w.grownBy w' (Value.slice c.buf.A c.buf.n c.buf.c).ownBlock
set_option maxRecDepth 100000 in
set_option maxHeartbeats 4000000 in
theorem goes_any (c : Cnf) (l : List Ent) (k : Nat) (hk : k < l.length) (tgt : Int) (w : World) (B : Nat) (hB : B ≤ w.heap.size) (ho : OwnE w B (.slice c.buf.A c.buf.n c.buf.c) l) (hln : l.length ≤ 1000000) :
  Calls Try.prog 96 #[c.v, .int .i64 (k : Int), .int .i64 tgt] w (GoesPost B c (goesBuf l k tgt) (goesPc l k tgt c.st.pc) w) := by
 obtain ⟨⟨r0, r1, r2, r3, ⟨mA, mN, mC⟩, ⟨sA, sN, sC⟩, pc⟩, ⟨bA, bN, bC⟩, ⟨qA, qN, qC⟩, fin⟩ := c
 simp only at ho
 obtain ⟨g, rfl, hg1, hg2, ⟨q0, q1, q2, q3, q4, q5, q6, q7⟩, hfa⟩ := ho.elem hk
 have f4 := hfa (k * 8 + 4)
 have hsh := OwnE.is (s := ⟨some ⟨g, 0, none⟩, bN, bC⟩) ho
 have hbn : bN = l.length := hsh.n
 have hbc : bN ≤ bC := hsh.c
 subst hbn
 clear hsh hfa
 unfold goesBuf goesPc
 rw [List.getElem?_eq_getElem hk]
 simp only
 have HO := Kept.mk ho
 have hne0 : g ≠ w.heap.size := by omega
 have hne1 : g ≠ w.heap.size + 1 := by omega
 have hcut : ∀ w, (Instr.slice 39 (.slice (some ⟨g, 0, none⟩) l.length bC) none (some (.int .i64 ((k : Int) + 1))) none).run Try.prog w = .ok (.slice (some ⟨g, 0, none⟩) (k + 1) bC) w := fun w => by
  have := cut_ent_run (some ⟨g, 0, none⟩) l.length bC (k + 1) hk hbc w
  rwa [show ((k + 1 : Nat) : Int) = (k : Int) + 1 by omega] at this
 clear ho
 by_cases hn : l[k].next = tgt
 ·rw [if_pos hn, if_pos hn]
  rw [hn] at q4
  clear hn
  go_enter Try.func96, Try.ntmps96
  go_wp2_with fail
  refine q0C _ [Cnf.v ⟨⟨r0, r1, r2, r3, ⟨mA, mN, mC⟩, ⟨sA, sN, sC⟩, pc⟩, ⟨some ⟨g, 0, none⟩, l.length, bC⟩, ⟨qA, qN, qC⟩, fin⟩, .slice (some ⟨w.heap.size + 1 + 1, 0, none⟩) 1 1] Try.results96 (.cons (.cell (cs := Cnf.cs ⟨⟨r0, r1, r2, r3, ⟨mA, mN, mC⟩, ⟨sA, sN, sC⟩, pc⟩, ⟨some ⟨g, 0, none⟩, l.length, bC⟩, ⟨qA, qN, qC⟩, fin⟩) (b := w.heap.size + 1) (off := 0) rfl rfl (q05 ((heap_alloc_old _ _ (by simp)).trans (q06 (by simp)))) Try.underlying41 rfl (by kernel_rfl)) (.cons (.tmp rfl) .nil)) rfl ⟨_, rfl, ?_, ?_, ?_⟩
  ·exact HO.out.past (by go_grown)
  ·exact (show Below w.heap.size w _ from by go_grown).mono hB
  ·exact q1A (by go_grown) _
 ·rw [if_neg hn, if_neg hn]
  have hn' : (l[k].next != tgt) = true := by simp [hn]
  have hlen : ((l.set k { l[k] with next := tgt }).take (k + 1)).length = k + 1 := by simp; omega
  have HLEN := Kept.mk hlen
  clear hlen
  clear hn
  go_enter Try.func96, Try.ntmps96
  go_wp2_with fail
  refine q0C _ [Cnf.v ⟨⟨r0, r1, r2, r3, ⟨mA, mN, mC⟩, ⟨sA, sN, sC⟩, tgt⟩, ⟨some ⟨g, 0, none⟩, k + 1, bC⟩, ⟨qA, qN, qC⟩, fin⟩, .slice (some ⟨w.heap.size + 1 + 1, 0, none⟩) 1 1] Try.results96 (.cons (.cell (cs := Cnf.cs ⟨⟨r0, r1, r2, r3, ⟨mA, mN, mC⟩, ⟨sA, sN, sC⟩, tgt⟩, ⟨some ⟨g, 0, none⟩, k + 1, bC⟩, ⟨qA, qN, qC⟩, fin⟩) (b := w.heap.size + 1) (off := 0) rfl rfl (q05 ((heap_alloc_old _ _ (by simp)).trans (q06 (by simp)))) Try.underlying41 rfl (by kernel_rfl)) (.cons (.tmp rfl) .nil)) rfl ⟨_, by rw [HLEN.out]; rfl, ?_, ?_, ?_⟩
  ·have h1 := HO.out.setAt rfl hk (j := 4) (u := .int .i64 tgt) (e' := { l[k] with next := tgt }) (by omega) rfl
   rw [HLEN.out]
   exact (OwnE.take (k := k + 1) h1 (by simp) (by omega)).past (by go_grown)
  ·refine ((Below.refl B w).setCell (p := ⟨g, k * 8 + 4, none⟩) (by exact hg1) (.int .i64 tgt)).trans (Below.mono (B := (w.setCell ⟨g, k * 8 + 4, none⟩ (.int .i64 tgt)).heap.size) ?_ (by simpa [World.setCell] using hB))
   go_grown
  ·refine World.grownBy.trans (q08 w ⟨g, k * 8 + 4, none⟩ (.int .i64 tgt)) (q1A ?_ _)
   go_grown
end
section
theorem cut_int_run (A : Option Addr) (n c k : Nat) (hk : k ≤ n) (hc : n ≤ c) (w : World) : (Instr.slice 22 (.slice A n c) none (some (.int .i64 (k : Int))) none).run Try.prog w = .ok (.slice A k c) w := by
 obtain ⟨i, hi, -⟩ := info_parts q2C
 have := run_cut_to (P := Try.prog) 22 3 i Try.underlying22 hi A n c (k : Int) (by omega) (by omega) hc w
 simpa using this
theorem real_take (il : List Inst) (s : List Int) (l : List Ent) (i : Int) : realOf il s (l.take i.toNat) = realOf il s (l.take (min i.toNat l.length)) := by
 by_cases h : i.toNat ≤ l.length
 ·rw [Nat.min_eq_left h]
 ·rw [Nat.min_eq_right (by omega), List.take_of_length_le (by omega), List.take_of_length_le (Nat.le_refl _)]
set_option maxRecDepth 100000 in
set_option maxHeartbeats 4000000 in
theorem real_ref (p : Prg) (il : List Inst) (A : Option Addr) (c : Nat) (s : List Int) (A' : Option Addr) (c' : Nat) (l : List Ent) (i : Int) (w : World) (hp : PIs w p il)
  (hs : RdI w A s) (hsn : s.length ≤ 1000) (hl : RdE w A' l) (hln : l.length ≤ 1000000) :
  Calls Try.prog 27 #[p.v, .slice A s.length c, .slice A' l.length c', .int .i64 i] w (RealPost (realOf il s (l.take i.toNat)) w) := by
 have HP := Kept.mk hp
 have HS := Kept.mk hs
 have HE := Kept.mk hl
 have HPN := Kept.mk hp.n
 have hpm := hp.m
 clear hp hs hl
 rw [real_take]
 obtain ⟨m, hm⟩ : ∃ m : Nat, min i.toNat l.length = m := ⟨_, rfl⟩
 rw [hm]
 have hml : m ≤ l.length := by omega
 have HM := Kept.mk hm
 clear hm
 generalize hR : realOf il s (l.take m) = RES
 have HR := Kept.mk hR
 clear hR
 have HMD : Kept (OwnI ((w.alloc (.cells p.cs.toArray 33)).alloc (.cells #[] 3)) (w.heap.size + 1) (.slice (some ⟨w.heap.size + 1, 0, none⟩) 0 0) []) := ⟨by
  have := OwnI.made (w := (w.alloc (.cells p.cs.toArray 33))) (B := w.heap.size + 1) (by simp)
  rwa [show (w.alloc (.cells p.cs.toArray 33)).heap.size = w.heap.size + 1 by simp] at this⟩
 go_enter Try.func27, Try.ntmps27
 go_wp2_with (at_builtin; go_must (refine append_nums _ rfl (.tmp 12) (.tmp 13) rfl (w.heap.size + 1) rfl HMD.out (m := s) rfl ((HS.out.past (q00 w _)).past (q00 _ _)) (by simp; omega) (by simp) ?_))
 intro v2 w2 h2 hg2 b2
 have H2 := Kept.mk (show OwnI w2 (w.heap.size + 1) v2 s from h2)
 have B2 := Kept.mk (((Below.refl (w.heap.size + 1) (w.alloc (.cells p.cs.toArray 33))).alloc (by simp) (.cells #[] 3)).trans b2)
 clear h2 hg2 b2
 go_wp2_with fail
 go_loopw [10, 11] (fun v i' wr => ∃ (k : Nat) (out : List Int), k ≤ m ∧ i' = .int .i64 (k : Int) ∧ out.length ≤ 1000 ∧ Kept (realOf il out ((l.take m).drop k) = RES) ∧ OwnI wr (w.heap.size + 1) v out ∧ Below (w.heap.size + 1) (w.alloc (.cells p.cs.toArray 33)) wr) (fun _ i' _ => m - (intOf i').toNat)
 case atStart => exact ⟨0, s, Nat.zero_le _, rfl, hsn, ⟨by rw [List.drop_zero]; exact HR.out⟩, H2.out, B2.out⟩
 case round =>
  obtain ⟨k, out, hk, rfl, hout, hre, ho, hb⟩ := hrel
  obtain ⟨A4, c4, rfl, hc4, r4⟩ := ho.shape
  have HPX := q24 ((hb.block _ (by omega)).trans (heap_alloc_new w (.cells p.cs.toArray 33)))
  have HW := Kept.mk ((q00 w (.cells p.cs.toArray 33)).trans (hb.mono (by omega)))
  have HO4 := Kept.mk ho
  have HB := Kept.mk hb
  have hsz : w.heap.size + 1 ≤ wr.heap.size := by have := hb.size; simpa using this
  clear ho hb r4
  by_cases hlt : k < m
  ·have hki : (k : Int) < i := by have := HM.out; omega
   have hkl : k < l.length := by omega
   obtain ⟨b, o, rfl, hbb, hel⟩ := (HE.out.past HW.out).el hkl
   have HEX := hel.kept hbb
   clear hel
   have hd : (l.take m).drop k = l[k] :: (l.take m).drop (k + 1) := by
    rw [List.drop_eq_getElem_cons (by rw [List.length_take]; omega), List.getElem_take]
   have hre2 := hre.out
   rw [hd, realOf] at hre2
   have HAT := Kept.mk (fun w1 (h : PIs w1 p il) => at7 p il l[k].pc w1 h)
   have hbd := @inst_bound il l[k].pc
   generalize instAt il l[k].pc = I at HAT hbd hre2
   have HRE := Kept.mk hre2
   clear hre2 hd hre
   by_cases h8 : I.kind = 8
   ·have hpc := hbd (by omega)
    have hpc0 : 0 ≤ l[k].pc := hpc.1
    have hpc1 : l[k].pc ≤ 1000 := by have := HPN.out; omega
    clear hbd hpc
    go_wp2_with fail
    refine q1E (wr.heap.size) (G := fun _ => True) (ts := [
      .is (p.v),
      .is (Value.slice (some ⟨b, o, none⟩) l.length c'),
      .is (Value.int .i64 ((k : Int))),
      .is (Value.pointer (some ⟨b, o + k * 8, none⟩)),
      .is (Value.pointer (some ⟨b, o + k * 8, none⟩)),
      .is (Value.int .i64 (l[k].pc)),
      .draws (I.v),
      .is (Value.int .i64 (I.kind))])
     (fin := []) (cs := []) (by kernel_rfl) rfl (by kernel_rfl) (by kernel_rfl)
     ⟨trivial, trivial, trivial, trivial, trivial, trivial, trivial, trivial, trivial⟩ (fun _ _ _ _ => trivial) (by simp) (by simp) trivial
     ⟨?_, ?_, ?_, ?_, ?_, ?_, ?_, ?_, trivial⟩ ?_
    ·intro vals w1 hB _ _
     refine q02 rfl ?_ (q04 rfl)
     exact q09 rfl (b := w.heap.size) (off := 0) (by kernel_rfl) p.cs (HPX.out w1 hB) Try.underlying33 rfl (by kernel_rfl)
    ·intro vals w1 hB _ _
     refine q02 rfl ?_ (q04 rfl)
     kernel_rfl
    ·intro vals w1 hB _ _
     refine q02 rfl ?_ (q04 rfl)
     kernel_rfl
    ·intro vals w1 hB _ _
     refine q02 rfl ?_ (q04 rfl)
     exact q1C (k := k) (n := l.length) (c := c') rfl (by kernel_rfl) (by kernel_rfl) Try.underlying39 (by kernel_rfl) (by omega)
    ·intro vals w1 hB _ _
     refine q02 rfl ?_ (q04 rfl)
     kernel_rfl
    ·intro vals w1 hB _ _
     refine q02 rfl ?_ (q04 rfl)
     exact q0A rfl (by kernel_rfl) ((HEX.out w1 hB) 0 _ rfl) Try.underlying3 rfl
    ·intro vals w1 hB _ _
     refine q12 (f := 62) (args := #[p.v, .int .i64 (l[k].pc)]) (w1 := w1) rfl (by kernel_rfl) ?_
     refine (HAT.out w1 ((HP.out.past HW.out).past hB)).mono ?_
     rintro e1 w2 ⟨rfl, h2⟩
     exact ⟨_, rfl, q18 rfl h2⟩
    ·intro vals w1 hB _ _
     refine q02 rfl ?_ (q04 rfl)
     kernel_rfl
    intro vals w5 b5 _ hr
    clear hr
    simp only [fillT, Tell.is, Tell.draws, Act.put, List.setIfInBounds_toArray, List.set_cons_zero, List.set_cons_succ]
    have c0 := HEX.out w5 b5 0 (.int .i64 l[k].pc) rfl
    rw [Nat.add_zero] at c0
    have W5 := Kept.mk (HW.out.trans (b5.mono HW.out.size))
    have B5 := Kept.mk (HB.out.trans (b5.mono (by omega)))
    have O5 := Kept.mk (HO4.out.past b5)
    have hS5r : wr.heap.size ≤ w5.heap.size := b5.size
    clear b5
    rw [h8]
    by_cases h4 : 4 ≤ out.length
    ·have HF := Kept.mk (HRE.out.symm.trans (by rw [if_pos h8, if_pos h4]))
     clear HRE
     go_wp2_with fail
     go_ret2
     exact RealPost.no HF.out W5.out
    ·have HF := Kept.mk (HRE.out.symm.trans (by rw [if_pos h8, if_neg h4]))
     have hS5 : w.heap.size + 1 ≤ w5.heap.size := by have := B5.out.size; simpa using this
     have y0 : ∀ ob, (w5.alloc ob).cell? ⟨b, o + k * 8, none⟩ = some (.int .i64 l[k].pc) := fun ob => ((q00 w5 ob).cell (p := ⟨b, o + k * 8, none⟩) (by show b < _; omega)).trans c0
     clear HRE
     go_wp2_with (at_builtin; go_must (refine append_int _ rfl (.tmp 39) (.tmp 46) rfl (w.heap.size + 1) rfl (O5.out.past (q00 _ _)) _ (l[k].pc + 1) rfl (q06 (by simp)) ?c1 ?c2 ?_))
     case c1 => omega
     case c2 => simp; omega
     intro v6 w6 h6 hg6 b6
     have O6 := Kept.mk h6
     have B6 := Kept.mk ((B5.out.alloc (by omega) (.cells #[.int .i64 (l[k].pc + 1)] 3)).trans b6)
     clear h6 hg6 b6 y0
     go_wp2_with fail
     exact ⟨⟨k + 1, out ++ [l[k].pc + 1], by omega, by go_num, by simp <;> omega, ⟨HF.out.symm⟩, O6.out, B6.out⟩, by simp [intOf] <;> omega⟩
   ·have h8' : (I.kind == 8) = false := by simp [h8]
    by_cases h9 : I.kind = 9
    ·clear hbd h8'
     go_wp2_with fail
     refine q1E (wr.heap.size) (G := fun _ => True) (ts := [
       .is (p.v),
       .is (Value.slice (some ⟨b, o, none⟩) l.length c'),
       .is (Value.int .i64 ((k : Int))),
       .is (Value.pointer (some ⟨b, o + k * 8, none⟩)),
       .is (Value.pointer (some ⟨b, o + k * 8, none⟩)),
       .is (Value.int .i64 (l[k].pc)),
       .draws (I.v),
       .is (Value.int .i64 (I.kind))])
      (fin := []) (cs := []) (by kernel_rfl) rfl (by kernel_rfl) (by kernel_rfl)
      ⟨trivial, trivial, trivial, trivial, trivial, trivial, trivial, trivial, trivial⟩ (fun _ _ _ _ => trivial) (by simp) (by simp) trivial
      ⟨?_, ?_, ?_, ?_, ?_, ?_, ?_, ?_, trivial⟩ ?_
     ·intro vals w1 hB _ _
      refine q02 rfl ?_ (q04 rfl)
      exact q09 rfl (b := w.heap.size) (off := 0) (by kernel_rfl) p.cs (HPX.out w1 hB) Try.underlying33 rfl (by kernel_rfl)
     ·intro vals w1 hB _ _
      refine q02 rfl ?_ (q04 rfl)
      kernel_rfl
     ·intro vals w1 hB _ _
      refine q02 rfl ?_ (q04 rfl)
      kernel_rfl
     ·intro vals w1 hB _ _
      refine q02 rfl ?_ (q04 rfl)
      exact q1C (k := k) (n := l.length) (c := c') rfl (by kernel_rfl) (by kernel_rfl) Try.underlying39 (by kernel_rfl) (by omega)
     ·intro vals w1 hB _ _
      refine q02 rfl ?_ (q04 rfl)
      kernel_rfl
     ·intro vals w1 hB _ _
      refine q02 rfl ?_ (q04 rfl)
      exact q0A rfl (by kernel_rfl) ((HEX.out w1 hB) 0 _ rfl) Try.underlying3 rfl
     ·intro vals w1 hB _ _
      refine q12 (f := 62) (args := #[p.v, .int .i64 (l[k].pc)]) (w1 := w1) rfl (by kernel_rfl) ?_
      refine (HAT.out w1 ((HP.out.past HW.out).past hB)).mono ?_
      rintro e1 w2 ⟨rfl, h2⟩
      exact ⟨_, rfl, q18 rfl h2⟩
     ·intro vals w1 hB _ _
      refine q02 rfl ?_ (q04 rfl)
      kernel_rfl
     intro vals w5 b5 _ hr
     clear hr
     simp only [fillT, Tell.is, Tell.draws, Act.put, List.setIfInBounds_toArray, List.set_cons_zero, List.set_cons_succ]
     have W5 := Kept.mk (HW.out.trans (b5.mono HW.out.size))
     have B5 := Kept.mk (HB.out.trans (b5.mono (by omega)))
     have O5 := Kept.mk (HO4.out.past b5)
     clear b5
     rw [h9]
     cases hol : out.length with
     | zero =>
      have HF := Kept.mk (HRE.out.symm.trans (by rw [if_neg h8, if_pos h9, if_pos hol]))
      clear HRE h8
      go_wp2_with fail
      go_ret2
      exact RealPost.no HF.out W5.out
     | succ j =>
      have HF := Kept.mk (HRE.out.symm.trans (by rw [if_neg h8, if_pos h9, if_neg (by omega)]))
      rw [hol] at hc4
      have hcut : ∀ w, (Instr.slice 22 (.slice A4 (j + 1) c4) none (some (.int .i64 (j : Int))) none).run Try.prog w = .ok (.slice A4 j c4) w := fun w => cut_int_run A4 (j + 1) c4 j (by omega) hc4 w
      have HOL := Kept.mk hol
      have hj : j < 1000 := by omega
      clear HRE h8 hol
      go_wp2_with fail
      exact ⟨⟨k + 1, out.take j, by omega, by go_num, by simp <;> omega, ⟨by have := HF.out; rw [HOL.out] at this; exact this.symm⟩, OwnI.take O5.out rfl (by have := HOL.out; omega), B5.out⟩, by simp [intOf] <;> omega⟩
    ·have h9' : (I.kind == 9) = false := by simp [h9]
     have HF := Kept.mk (HRE.out.symm.trans (by rw [if_neg h8, if_neg h9]))
     clear HRE hbd
     go_wp2_with fail
     refine q1E (wr.heap.size) (G := fun _ => True) (ts := [
       .is (p.v),
       .is (Value.slice (some ⟨b, o, none⟩) l.length c'),
       .is (Value.int .i64 ((k : Int))),
       .is (Value.pointer (some ⟨b, o + k * 8, none⟩)),
       .is (Value.pointer (some ⟨b, o + k * 8, none⟩)),
       .is (Value.int .i64 (l[k].pc)),
       .draws (I.v),
       .is (Value.int .i64 (I.kind))])
      (fin := []) (cs := []) (by kernel_rfl) rfl (by kernel_rfl) (by kernel_rfl)
      ⟨trivial, trivial, trivial, trivial, trivial, trivial, trivial, trivial, trivial⟩ (fun _ _ _ _ => trivial) (by simp) (by simp) trivial
      ⟨?_, ?_, ?_, ?_, ?_, ?_, ?_, ?_, trivial⟩ ?_
     ·intro vals w1 hB _ _
      refine q02 rfl ?_ (q04 rfl)
      exact q09 rfl (b := w.heap.size) (off := 0) (by kernel_rfl) p.cs (HPX.out w1 hB) Try.underlying33 rfl (by kernel_rfl)
     ·intro vals w1 hB _ _
      refine q02 rfl ?_ (q04 rfl)
      kernel_rfl
     ·intro vals w1 hB _ _
      refine q02 rfl ?_ (q04 rfl)
      kernel_rfl
     ·intro vals w1 hB _ _
      refine q02 rfl ?_ (q04 rfl)
      exact q1C (k := k) (n := l.length) (c := c') rfl (by kernel_rfl) (by kernel_rfl) Try.underlying39 (by kernel_rfl) (by omega)
     ·intro vals w1 hB _ _
      refine q02 rfl ?_ (q04 rfl)
      kernel_rfl
     ·intro vals w1 hB _ _
      refine q02 rfl ?_ (q04 rfl)
      exact q0A rfl (by kernel_rfl) ((HEX.out w1 hB) 0 _ rfl) Try.underlying3 rfl
     ·intro vals w1 hB _ _
      refine q12 (f := 62) (args := #[p.v, .int .i64 (l[k].pc)]) (w1 := w1) rfl (by kernel_rfl) ?_
      refine (HAT.out w1 ((HP.out.past HW.out).past hB)).mono ?_
      rintro e1 w2 ⟨rfl, h2⟩
      exact ⟨_, rfl, q18 rfl h2⟩
     ·intro vals w1 hB _ _
      refine q02 rfl ?_ (q04 rfl)
      kernel_rfl
     intro vals w5 b5 _ hr
     clear hr
     simp only [fillT, Tell.is, Tell.draws, Act.put, List.setIfInBounds_toArray, List.set_cons_zero, List.set_cons_succ]
     have W5 := Kept.mk (HW.out.trans (b5.mono HW.out.size))
     have B5 := Kept.mk (HB.out.trans (b5.mono (by omega)))
     have O5 := Kept.mk (HO4.out.past b5)
     clear b5 h8 h9
     go_wp2_with fail
     exact ⟨⟨k + 1, out, by omega, by go_num, by omega, ⟨HF.out.symm⟩, O5.out, B5.out⟩, by simp [intOf] <;> omega⟩
  ·have hkm : k = m := by omega
   have HF : Kept (RES = some out) := ⟨by rw [← hre.out, hkm, List.drop_of_length_le (by rw [List.length_take]; omega), realOf]⟩
   have hmk := HM.out
   clear hre
   by_cases hki : (k : Int) < i
   ·have hkl : l.length ≤ k := by omega
    go_wp2_with fail
    go_ret2
    exact RealPost.yes HF.out (HO4.out.lower (by omega)) HW.out
   ·go_wp2_with fail
    go_ret2
    exact RealPost.yes HF.out (HO4.out.lower (by omega)) HW.out
end
section
def DoPost (c : Cnf) (l' : List Ent) (pc' : Int) (w : World) (en : Ending) (w' : World) : Prop := ∃ (c' : Cnf) (ov : Value), en = .returned (.tuple #[c'.v, ov, .bool true]) ∧
 c'.st = { c.st with pc := pc' } ∧ OwnE w' w.heap.size (.slice c'.buf.A c'.buf.n c'.buf.c) l' ∧ c'.rsb = c.rsb ∧ c'.fin = c.fin ∧ Below w.heap.size w w'
def doOut (W : Int) (il : List Inst) (m : Conf) (k : Nat) (e1 : Ent) (x : Inst) : List Ent × Int :=
 let m1 := { m with buf := m.buf.set k e1 }
 let a := (aOf W il m1 k x).1
 let b := (bOf W il m1 k x).1
 let d := (dOf il m1 k x).1
 if x.kind = 1 then (m.buf.set k { e1 with val := doW W x.op a b }, m.st.pc)
 else if x.kind = 4 then (m.buf.set k { e1 with val := if a = 0 then d else b }, m.st.pc)
 else if x.kind = 3 then (m.buf.set k { e1 with val := d }, m.st.pc)
 else if x.kind = 2 then
  let ad := maskW W (a + b)
  let e2 := { e1 with addr := ad, known := true }
  if (m.st.mem.length : Int) ≤ ad then (m.buf.set k { e2 with fault := true }, m.st.pc)
  else (m.buf.set k { e2 with val := (loadOf il (m.buf.set k e2) m.st.mem k ad).1, frm := (loadOf il (m.buf.set k e2) m.st.mem k ad).2.1 }, m.st.pc)
 else if x.kind = 5 then
  let t := if doW W x.op a b = 0 then e1.pc + 1 else x.target
  (goesBuf (m.buf.set k e1) k t, goesPc (m.buf.set k e1) k t m.st.pc)
 else if x.kind = 7 then (goesBuf (m.buf.set k e1) k (min a il.length), goesPc (m.buf.set k e1) k (min a il.length) m.st.pc)
 else match realOf il m.st.stack ((m.buf.set k e1).take k) with
  | none => (m.buf.set k { e1 with fault := true }, m.st.pc)
  | some s => match s.getLast? with
   | none => (m.buf.set k { e1 with fault := true }, m.st.pc)
   | some t => (goesBuf (m.buf.set k e1) k t, goesPc (m.buf.set k e1) k t m.st.pc)
theorem own10 {w : World} {B g : Nat} {v : Value} {l : List Ent} (e : Cnf) (h : OwnE w B v l) (hg : g < B) : OwnE ((((((((((w.setCell ⟨g, 0, none⟩ (.int .i64 e.st.r0)).setCell ⟨g, 1, none⟩ (.int .i64 e.st.r1)).setCell ⟨g, 2, none⟩ (.int .i64 e.st.r2)).setCell ⟨g, 3, none⟩ (.int .i64 e.st.r3)).setCell ⟨g, 4, none⟩ (.slice e.st.mem.A e.st.mem.n e.st.mem.c)).setCell ⟨g, 5, none⟩ (.slice e.st.stack.A e.st.stack.n e.st.stack.c)).setCell ⟨g, 6, none⟩ (.int .i64 e.st.pc)).setCell
   ⟨g, 7, none⟩ (.slice e.buf.A e.buf.n e.buf.c)).setCell ⟨g, 8, none⟩ (.slice e.rsb.A e.rsb.n e.rsb.c)).setCell ⟨g, 9, none⟩ (.int .i64 e.fin)) B v l := by
 iterate 10 refine OwnE.far ?_ (by exact hg) _
 exact h
theorem below10 {w0 w : World} {B g : Nat} (e : Cnf) (h : Below B w0 w) (hg : B ≤ g) : Below B w0 ((((((((((w.setCell ⟨g, 0, none⟩ (.int .i64 e.st.r0)).setCell ⟨g, 1, none⟩ (.int .i64 e.st.r1)).setCell ⟨g, 2, none⟩ (.int .i64 e.st.r2)).setCell ⟨g, 3, none⟩ (.int .i64 e.st.r3)).setCell ⟨g, 4, none⟩ (.slice e.st.mem.A e.st.mem.n e.st.mem.c)).setCell ⟨g, 5, none⟩ (.slice e.st.stack.A e.st.stack.n e.st.stack.c)).setCell ⟨g, 6, none⟩ (.int .i64 e.st.pc)).setCell
   ⟨g, 7, none⟩ (.slice e.buf.A e.buf.n e.buf.c)).setCell ⟨g, 8, none⟩ (.slice e.rsb.A e.rsb.n e.rsb.c)).setCell ⟨g, 9, none⟩ (.int .i64 e.fin)) := by
 iterate 10 refine Below.setCell ?_ (by exact hg) _
 exact h
theorem OwnE.el {w : World} {B : Nat} {A : Option Addr} {n c : Nat} {l : List Ent} (h : OwnE w B (.slice A n c) l) {k : Nat} (hk : k < l.length) : ∃ g, A = some ⟨g, 0, none⟩ ∧ B ≤ g ∧ g < w.heap.size ∧ CellsAt w g (k * 8) l[k].cs ∧ ∀ j, w.frozen? ⟨g, j, none⟩ = false := by
 obtain ⟨g, rfl, h1, h2, _, h4⟩ := h.elem hk
 obtain ⟨b, o, e, hb, hc⟩ := (OwnE.is (s := ⟨some ⟨g, 0, none⟩, n, c⟩) h).r.el hk
 injection e with e
 injection e with e1 e2 _
 subst e1 e2
 rw [Nat.zero_add] at hc
 exact ⟨g, rfl, h1, h2, hc, h4⟩
theorem real_len (il : List Inst) : ∀ (l : List Ent) (s r : List Int), realOf il s l = some r → r.length ≤ s.length + 4
 | [], s, r, h => by rw [realOf] at h; injection h with h; subst h; omega
 | e :: l, s, r, h => by
  have main : r.length ≤ max s.length 4 := by
   revert h
   generalize e :: l = m
   intro h
   clear l e
   induction m generalizing s with
   | nil => rw [realOf] at h; injection h with h; subst h; omega
   | cons e l ih =>
    rw [realOf] at h
    split at h
    ·split at h
     ·cases h
     ·have := ih _ h; simp at this; omega
    ·split at h
     ·split at h
      ·cases h
      ·have := ih _ h; simp at this; omega
     ·exact ih _ h
  omega
theorem OwnE.boxstep {w w' : World} {B n : Nat} {t : TypeId} {v : Value} {l : List Ent} (h : OwnE w B v l) (hs : BoxStep t n w w') (ht : t ≠ 55) : OwnE w' B v l := by
 obtain ⟨b, cs', ⟨cs, _, h1⟩, _, _, hg⟩ := hs
 refine World.ownsRow.kept h hg ?_
 rcases h.2 with ⟨rfl, _⟩ | ⟨g, cap, cur, rfl, _, hh, _⟩
 ·exact .inl rfl
 ·refine .inr ?_
  intro e
  injection e with e
  subst e
  rw [h1] at hh
  injection hh with hh
  injection hh with _ hh
  exact ht hh
theorem OwnE.tagged {w : World} {B g n c : Nat} {l : List Ent} (h : OwnE w B (.slice (some ⟨g, 0, none⟩) n c) l) (hl : 0 < l.length) : ∃ cs : Array Value, w.heap[g]? = some (.cells cs 55 (0, 0)) := by
 rcases h.2 with ⟨hv, _⟩ | ⟨g', cap, cur, hv, _, hh, _⟩
 ·cases hv
 ·injection hv with h1
  injection h1 with h1
  injection h1 with h1
  subst h1
  exact ⟨_, hh⟩
set_option maxRecDepth 100000 in
set_option maxHeartbeats 2000000 in
theorem jump_any (p : Prg) (il : List Inst) (n : Int) (w : World) (hp : PIs w p il) : Calls Try.prog 75 #[p.v, .int .i64 n] w fun en w' => en = .returned (.int .i64 (min n il.length)) ∧ Below w.heap.size w w' := by
 have HN := Kept.mk hp.n
 have hm := hp.m
 clear hp
 go_enter Try.func75, Try.ntmps75
 go_wp2_with fail
 go_ret
 exact ⟨by rw [← HN.out]; rfl, by go_grown⟩
end
section
def stInts (s : State) : List Int := [s.r0, s.r1, s.r2, s.r3, (s.mem.length : Int)] ++ s.mem ++ [(s.stack.length : Int)] ++ s.stack ++ [s.pc]
theorem stInts_length (s : State) : (stInts s).length = s.mem.length + s.stack.length + 7 := by simp only [stInts, List.length_append, List.length_cons, List.length_nil]; omega
end
end Go.Proofs.Ytchldbkjapnlcaa
