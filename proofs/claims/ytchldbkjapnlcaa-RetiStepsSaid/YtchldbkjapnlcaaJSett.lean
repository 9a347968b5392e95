/- What is done stays done right: what a machine that a walk came to holds of each that is under way is what the program, step by step, would come to. Plain law, no program in sight. -/
import Derived.Test.YtchldbkjapnlcaaJChain
set_option linter.unusedVariables false
set_option linter.unusedSimpArgs false
namespace Go.Proofs.Ytchldbkjapnlcaa
open Go.RowKit
section
structure Later (e e' : Ent) : Prop where
 pc : e'.pc = e.pc
 done : e.done = true → e'.done = true ∧ e'.val = e.val
theorem Later.refl (e : Ent) : Later e e := ⟨rfl, fun h => ⟨h, rfl⟩⟩
def LaterTo (l l' : List Ent) (k : Nat) : Prop := ∀ i, i < k → ∃ e e', l[i]? = some e ∧ l'[i]? = some e' ∧ Later e e'
theorem regGo_later (il : List Inst) {l l' : List Ent} (r fall : Int) : ∀ (k : Nat), LaterTo l l' k → (regGo il l r fall k).2 = true → regGo il l' r fall k = regGo il l r fall k
 | 0, _, _ => rfl
 | k + 1, h, ht => by
  obtain ⟨e, e', h1, h2, h3⟩ := h k (Nat.lt_succ_self k)
  rw [regGo, h1] at ht
  rw [regGo, regGo, h1, h2]
  simp only at ht ⊢
  rw [h3.pc]
  split
  ·rename_i hd
   rw [if_pos hd] at ht
   cases hde : e.done with
   | false => rw [hde] at ht; simp at ht
   | true =>
    obtain ⟨g1, g2⟩ := h3.done hde
    rw [g1, g2]
  ·rename_i hd
   rw [if_neg hd] at ht
   exact regGo_later il r fall k (fun i hi => h i (by omega)) ht
theorem regOf_nat (il : List Inst) (a b c d : Int) (l : List Ent) (j : Nat) (hj : j ≤ l.length) (r : Int) : regOf il a b c d l (j : Int) r = if r < 0 ∨ 3 < r then (0, false) else regGo il l r (regsAt a b c d r) j := by
 unfold regOf
 have : (min (max (j : Int) 0) (l.length : Int)).toNat = j := by omega
 rw [this]
theorem regOf_later (il : List Inst) (a b c d : Int) {l l' : List Ent} (j : Nat) (hj : j ≤ l.length) (hj' : j ≤ l'.length) (h : LaterTo l l' j) (r : Int) (ht : (regOf il a b c d l (j : Int) r).2 = true) : regOf il a b c d l' (j : Int) r = regOf il a b c d l (j : Int) r := by
 rw [regOf_nat _ _ _ _ _ _ _ hj] at ht ⊢
 rw [regOf_nat _ _ _ _ _ _ _ hj']
 split
 ·rfl
 ·rename_i hr
  rw [if_neg hr] at ht
  exact regGo_later il r _ j h ht
structure LaterS (il : List Inst) (e e' : Ent) : Prop where
 pc : e'.pc = e.pc
 st : (instAt il e.pc).kind = 3 → e'.known = e.known ∧ e'.addr = e.addr ∧ (e.done = true → e'.done = true ∧ e'.val = e.val)
theorem LaterS.refl (il : List Inst) (e : Ent) : LaterS il e e := ⟨rfl, fun _ => ⟨rfl, rfl, fun h => ⟨h, rfl⟩⟩⟩
theorem loadGo_later (il : List Inst) {l l' : List Ent} (mem : List Int) (ad : Int) : ∀ (k : Nat), (∀ i, i < k → ∃ e e', l[i]? = some e ∧ l'[i]? = some e' ∧ LaterS il e e') → (loadGo il l mem ad k).2.2 = true → loadGo il l' mem ad k = loadGo il l mem ad k
 | 0, _, _ => by rw [loadGo, loadGo]
 | k + 1, h, ht => by
  obtain ⟨e, e', h1, h2, h3⟩ := h k (Nat.lt_succ_self k)
  rw [loadGo, h1] at ht
  rw [loadGo, loadGo, h1, h2]
  simp only at ht ⊢
  rw [h3.pc]
  by_cases h3k : (instAt il e.pc).kind = 3
  ·obtain ⟨g1, g2, g3⟩ := h3.st h3k
   rw [g1, g2]
   split
   ·rename_i hd
    rw [if_pos hd] at ht
    cases hde : e.done with
    | false => rw [hde] at ht; simp at ht
    | true =>
     obtain ⟨q1, q2⟩ := g3 hde
     rw [q1, q2]
   ·rename_i hd
    rw [if_neg hd] at ht
    exact loadGo_later il mem ad k (fun i hi => h i (by omega)) ht
  ·have hz : ((instAt il e.pc).kind == 3) = false := by simpa using h3k
   rw [hz] at ht ⊢
   simp only [Bool.false_and] at ht ⊢
   exact loadGo_later il mem ad k (fun i hi => h i (by omega)) ht
theorem loadGo_told (il : List Inst) {l : List Ent} (mem : List Int) (ad : Int) (i : Nat) (e0 e1 : Ent) (h0 : l[i]? = some e0) (hp : e1.pc = e0.pc) (hk : e0.known = false) (v f : Int) : ∀ (k : Nat), k ≤ l.length → loadGo il l mem ad k = (v, f, true) → (e1.addr ≠ ad ∨ (i : Int) ≤ f) → loadGo il (l.set i e1) mem ad k = (v, f, true)
 | 0, _, hl, _ => by rw [loadGo] at hl ⊢; exact hl
 | k + 1, hkl, hl, hor => by
  have hlk : l[k]? = some l[k] := List.getElem?_eq_getElem (by omega)
  rw [loadGo, hlk] at hl
  simp only at hl
  rw [loadGo, List.getElem?_set]
  by_cases hik : i = k
  ·subst hik
   rw [if_pos rfl, if_pos (by omega)]
   simp only
   rw [h0] at hlk
   injection hlk with hlk
   rw [← hlk, hk] at hl
   simp only [Bool.and_false, Bool.false_and, Bool.false_eq_true, if_false] at hl
   rcases hor with hor | hor
   ·have : (e1.addr == ad) = false := by simpa using hor
    rw [this]
    simp only [Bool.and_false, Bool.false_eq_true, if_false]
    exact loadGo_told il mem ad i e0 e1 h0 hp hk v f i (by omega) hl (.inl hor)
   ·exfalso
    have key : ∀ (q : Nat) (v f : Int), loadGo il l mem ad q = (v, f, true) → f < q := by
     intro q
     induction q with
     | zero =>
      intro v f h
      rw [loadGo] at h
      split at h
      ·injection h with _ h; injection h with h _; omega
      ·injection h with _ h; injection h with h _; omega
     | succ q ih =>
      intro v f h
      rw [loadGo] at h
      split at h
      ·injection h with _ h; injection h with h _; omega
      ·split at h
       ·split at h
        ·injection h with _ h; injection h with h _; omega
        ·injection h with _ h; injection h with _ h; cases h
       ·have := ih v f h; omega
    have := key i v f hl
    omega
  ·rw [if_neg hik, hlk]
   simp only
   by_cases hm : ((instAt il l[k].pc).kind == 3 && l[k].known && l[k].addr == ad) = true
   ·rw [if_pos hm] at hl ⊢
    exact hl
   ·rw [if_neg hm] at hl ⊢
    exact loadGo_told il mem ad i e0 e1 h0 hp hk v f k (by omega) hl hor
theorem q30 (il : List Inst) (l : List Ent) (mem : List Int) (j : Nat) (hj : j ≤ l.length) (ad : Int) : loadOf il l mem (j : Int) ad = loadGo il l mem ad j := by
 unfold loadOf
 have : (min (max (j : Int) 0) (l.length : Int)).toNat = j := by omega
 rw [this]
theorem regGo_pop (il : List Inst) (e0 : Ent) (t : List Ent) (r fall fall' : Int) (h1 : (destOf (instAt il e0.pc)).2 = true ∧ (destOf (instAt il e0.pc)).1 = r → e0.done = true ∧ fall' = e0.val) (h2 : ¬ ((destOf (instAt il e0.pc)).2 = true ∧ (destOf (instAt il e0.pc)).1 = r) → fall' = fall) :
  ∀ (k : Nat), k ≤ t.length → regGo il (t.map Ent.down) r fall' k = regGo il (e0 :: t) r fall (k + 1)
 | 0, _ => by
  rw [regGo, regGo]
  simp only [List.getElem?_cons_zero]
  split
  ·rename_i h
   obtain ⟨g1, g2⟩ := h1 h
   rw [g1, g2]
   rfl
  ·rename_i h
   rw [h2 h, regGo]
 | k + 1, hk => by
  have ih := regGo_pop il e0 t r fall fall' h1 h2 k (by omega)
  rw [regGo, regGo, List.getElem?_map, List.getElem?_cons_succ]
  cases ht : t[k]? with
  | none => have := List.getElem?_eq_none_iff.1 ht; omega
  | some b =>
   simp only [Option.map_some]
   have hd : b.down.pc = b.pc ∧ b.down.done = b.done ∧ b.down.val = b.val := by unfold Ent.down; split <;> exact ⟨rfl, rfl, rfl⟩
   rw [hd.1, hd.2.1, hd.2.2, ih]
theorem loadGo_pop (il : List Inst) (e0 : Ent) (t : List Ent) (mem mem' : List Int) (ad : Int) (had : 0 ≤ ad ∧ ad < mem.length) (hml : mem'.length = mem.length)
  (h1 : (instAt il e0.pc).kind = 3 → e0.known = true ∧ e0.done = true ∧ 0 ≤ e0.addr ∧ e0.addr < mem.length ∧ mem' = mem.set e0.addr.toNat e0.val) (h2 : (instAt il e0.pc).kind ≠ 3 → mem' = mem) (v f : Int) :
  ∀ (k : Nat), k ≤ t.length → loadGo il (e0 :: t) mem ad (k + 1) = (v, f, true) → loadGo il (t.map Ent.down) mem' ad k = (v, (if 0 ≤ f then f - 1 else f), true)
 | 0, _, hl => by
  have hb : loadGo il (t.map Ent.down) mem' ad 0 = (mem'[ad.toNat]?.getD 0, -1, true) := by rw [loadGo, if_neg (by omega)]
  rw [hb]
  rw [loadGo] at hl
  simp only [List.getElem?_cons_zero] at hl
  by_cases h3 : (instAt il e0.pc).kind = 3
  ·obtain ⟨g1, g2, g3, g4, g5⟩ := h1 h3
   have hk3 : ((instAt il e0.pc).kind == 3) = true := by simpa using h3
   rw [hk3, g1] at hl
   simp only [Bool.true_and] at hl
   by_cases ha : e0.addr = ad
   ·rw [if_pos (by simpa using ha), if_pos g2] at hl
    injection hl with e1 hl
    injection hl with e2 _
    subst e1
    have hf : f = 0 := e2.symm
    subst hf
    rw [g5, ha, List.getElem?_set, if_pos rfl, if_pos (by omega)]
    rfl
   ·rw [if_neg (by simpa using ha), loadGo, if_neg (by omega)] at hl
    injection hl with e1 hl
    injection hl with e2 _
    subst e1 e2
    rw [g5, List.getElem?_set, if_neg (by omega)]
    rfl
  ·have hk3 : ((instAt il e0.pc).kind == 3) = false := by simpa using h3
   rw [hk3] at hl
   simp only [Bool.false_and, Bool.false_eq_true, if_false] at hl
   rw [loadGo, if_neg (by omega)] at hl
   injection hl with e1 hl
   injection hl with e2 _
   subst e1 e2
   rw [h2 h3]
   rfl
 | k + 1, hk, hl => by
  rw [loadGo, List.getElem?_cons_succ] at hl
  rw [loadGo, List.getElem?_map]
  cases ht : t[k]? with
  | none => have := List.getElem?_eq_none_iff.1 ht; omega
  | some b =>
   rw [ht] at hl
   simp only [Option.map_some] at hl ⊢
   have hd : b.down.pc = b.pc ∧ b.down.done = b.done ∧ b.down.val = b.val ∧ b.down.known = b.known ∧ b.down.addr = b.addr := by unfold Ent.down; split <;> exact ⟨rfl, rfl, rfl, rfl, rfl⟩
   rw [hd.1, hd.2.1, hd.2.2.1, hd.2.2.2.1, hd.2.2.2.2]
   split
   ·rename_i hm
    rw [if_pos hm] at hl
    split
    ·rename_i hdn
     rw [if_pos hdn] at hl
     injection hl with e1 hl
     injection hl with e2 _
     subst e1 e2
     rw [if_pos (by omega)]
     congr 1
     congr 1
     omega
    ·rename_i hdn
     rw [if_neg hdn] at hl
     injection hl with _ hl
     injection hl with _ hl
     cases hl
   ·rename_i hm
    rw [if_neg hm] at hl
    exact loadGo_pop il e0 t mem mem' ad had hml h1 h2 v f k (by omega) hl
structure Right (W : Int) (il : List Inst) (m : Conf) (j : Nat) (e : Ent) (x : Inst) : Prop where
 nx : (x.kind = 1 ∨ x.kind = 2 ∨ x.kind = 3 ∨ x.kind = 4 ∨ x.kind = 10) → e.next = e.pc + 1
 nf : (x.kind = 1 ∨ x.kind = 4 ∨ x.kind = 5 ∨ x.kind = 6 ∨ x.kind = 7 ∨ x.kind = 10 ∨ x.kind = 11) → e.fault = false
 alu : x.kind = 1 → e.done = true → (aOf W il m j x).2 = true ∧ (bOf W il m j x).2 = true ∧ e.val = doW W x.op (aOf W il m j x).1 (bOf W il m j x).1
 cm : x.kind = 4 → e.done = true → (aOf W il m j x).2 = true ∧ (bOf W il m j x).2 = true ∧ (dOf il m j x).2 = true ∧ e.val = if (aOf W il m j x).1 = 0 then (dOf il m j x).1 else (bOf W il m j x).1
 ld : x.kind = 2 → e.done = true → (aOf W il m j x).2 = true ∧ (bOf W il m j x).2 = true ∧ e.known = true ∧ e.addr = maskW W ((aOf W il m j x).1 + (bOf W il m j x).1)
 lf : x.kind = 2 → e.done = true → (m.st.mem.length : Int) ≤ e.addr → e.fault = true
 ll : x.kind = 2 → e.done = true → e.addr < m.st.mem.length → e.fault = false ∧ loadOf il m.buf m.st.mem j e.addr = (e.val, e.frm, true)
 l0 : x.kind = 2 → e.done = false → e.known = false
 l0f : x.kind = 2 → e.done = false → e.fault = false
 r0f : x.kind = 9 → e.done = false → e.fault = false
 sk : x.kind = 3 → e.known = true → (aOf W il m j x).2 = true ∧ (bOf W il m j x).2 = true ∧ e.addr = maskW W ((aOf W il m j x).1 + (bOf W il m j x).1) ∧ e.fault = decide ((m.st.mem.length : Int) ≤ e.addr)
 sn : x.kind = 3 → e.known = false → e.fault = false
 sd : x.kind = 3 → e.done = true → (dOf il m j x).2 = true ∧ e.val = (dOf il m j x).1
 br : x.kind = 5 → e.done = true → (aOf W il m j x).2 = true ∧ (bOf W il m j x).2 = true ∧ e.next = if doW W x.op (aOf W il m j x).1 (bOf W il m j x).1 = 0 then e.pc + 1 else x.target
 jm : x.kind = 6 → e.next = x.target
 ij : x.kind = 7 → e.done = true → (aOf W il m j x).2 = true ∧ e.next = min (aOf W il m j x).1 il.length
 ca : x.kind = 8 → e.next = x.target ∧ e.fault = (match realOf il m.st.stack (m.buf.take j) with | none => true | some s => decide (4 ≤ s.length))
 re : x.kind = 9 → e.done = true → (match realOf il m.st.stack (m.buf.take j) with | none => e.fault = true | some s => (match s.getLast? with | none => e.fault = true | some t => e.fault = false ∧ e.next = t))
def Sett (W : Int) (il : List Inst) (m : Conf) : Prop := ∀ (j : Nat) (e : Ent), m.buf[j]? = some e → Right W il m j e (instAt il e.pc)
theorem Right.keep {W : Int} {il : List Inst} {m m' : Conf} {j j' : Nat} {e e' : Ent} {x : Inst} (h : Right W il m j e x) (hp : e'.pc = e.pc) (hv : e'.val = e.val) (ha : e'.addr = e.addr) (hn : e'.next = e.next) (hd : e'.done = e.done) (hk : e'.known = e.known) (hf : e'.fault = e.fault)
  (hr : ∀ r, (regOf il m.st.r0 m.st.r1 m.st.r2 m.st.r3 m.buf j r).2 = true → regOf il m'.st.r0 m'.st.r1 m'.st.r2 m'.st.r3 m'.buf j' r = regOf il m.st.r0 m.st.r1 m.st.r2 m.st.r3 m.buf j r) (hm : m'.st.mem.length = m.st.mem.length)
  (hl : x.kind = 2 → e.done = true → e.addr < m.st.mem.length → loadOf il m.buf m.st.mem j e.addr = (e.val, e.frm, true) → loadOf il m'.buf m'.st.mem j' e.addr = (e.val, e'.frm, true))
  (hs : x.kind = 8 ∨ x.kind = 9 → realOf il m'.st.stack (m'.buf.take j') = realOf il m.st.stack (m.buf.take j)) : Right W il m' j' e' x := by
 have hvv : ∀ (vr : Bool) (vn : Int), (valOf W il m.st.r0 m.st.r1 m.st.r2 m.st.r3 m.buf j vr vn).2 = true → valOf W il m'.st.r0 m'.st.r1 m'.st.r2 m'.st.r3 m'.buf j' vr vn = valOf W il m.st.r0 m.st.r1 m.st.r2 m.st.r3 m.buf j vr vn := fun vr vn ht => by
  unfold valOf at ht ⊢
  split
  ·rename_i hv
   rw [if_pos hv] at ht
   exact hr vn ht
  ·rfl
 have hA : (aOf W il m j x).2 = true → aOf W il m' j' x = aOf W il m j x := hvv _ _
 have hB : (bOf W il m j x).2 = true → bOf W il m' j' x = bOf W il m j x := hvv _ _
 have hD : (dOf il m j x).2 = true → dOf il m' j' x = dOf il m j x := hr _
 refine ⟨fun k => by rw [hn, hp]; exact h.nx k, fun k => by rw [hf]; exact h.nf k, fun k g => ?_, fun k g => ?_, fun k g => ?_, fun k g q => ?_, fun k g q => ?_, fun k g => ?_, fun k g => ?_, fun k g => ?_, fun k g => ?_, fun k g => ?_, fun k g => ?_, fun k g => ?_, fun k => ?_, fun k g => ?_, fun k => ?_, fun k g => ?_⟩
 ·rw [hd] at g
  obtain ⟨g1, g2, g3⟩ := h.alu k g
  rw [hA g1, hB g2, hv]
  exact ⟨g1, g2, g3⟩
 ·rw [hd] at g
  obtain ⟨g1, g2, g3, g4⟩ := h.cm k g
  rw [hA g1, hB g2, hD g3, hv]
  exact ⟨g1, g2, g3, g4⟩
 ·rw [hd] at g
  obtain ⟨g1, g2, g3, g4⟩ := h.ld k g
  rw [hA g1, hB g2, hk, ha]
  exact ⟨g1, g2, g3, g4⟩
 ·rw [hd] at g
  rw [hf]
  rw [hm, ha] at q
  exact h.lf k g q
 ·rw [hd] at g
  rw [hm, ha] at q
  obtain ⟨q1, q2⟩ := h.ll k g q
  rw [hf, ha, hv]
  exact ⟨q1, hl k g q q2⟩
 ·rw [hd] at g
  rw [hk]
  exact h.l0 k g
 ·rw [hd] at g
  rw [hf]
  exact h.l0f k g
 ·rw [hd] at g
  rw [hf]
  exact h.r0f k g
 ·rw [hk] at g
  obtain ⟨g1, g2, g3, g4⟩ := h.sk k g
  rw [hA g1, hB g2, ha, hf, hm]
  exact ⟨g1, g2, g3, g4⟩
 ·rw [hk] at g
  rw [hf]
  exact h.sn k g
 ·rw [hd] at g
  obtain ⟨g1, g2⟩ := h.sd k g
  rw [hD g1, hv]
  exact ⟨g1, g2⟩
 ·rw [hd] at g
  obtain ⟨g1, g2, g3⟩ := h.br k g
  rw [hA g1, hB g2, hn, hp]
  exact ⟨g1, g2, g3⟩
 ·rw [hn]
  exact h.jm k
 ·rw [hd] at g
  obtain ⟨g1, g2⟩ := h.ij k g
  rw [hA g1, hn]
  exact ⟨g1, g2⟩
 ·rw [hs (.inl k), hn, hf]
  exact h.ca k
 ·rw [hd] at g
  rw [hs (.inr k), hf, hn]
  exact h.re k g
theorem regGo_pre (il : List Inst) {l l' : List Ent} (r fall : Int) : ∀ (k : Nat), (∀ i, i < k → l'[i]? = l[i]?) → regGo il l' r fall k = regGo il l r fall k
 | 0, _ => rfl
 | k + 1, h => by
  rw [regGo, regGo, h k (Nat.lt_succ_self k), regGo_pre il r fall k (fun i hi => h i (by omega))]
theorem loadGo_pre (il : List Inst) {l l' : List Ent} (mem : List Int) (ad : Int) : ∀ (k : Nat), (∀ i, i < k → l'[i]? = l[i]?) → loadGo il l' mem ad k = loadGo il l mem ad k
 | 0, _ => by rw [loadGo, loadGo]
 | k + 1, h => by
  rw [loadGo, loadGo, h k (Nat.lt_succ_self k), loadGo_pre il mem ad k (fun i hi => h i (by omega))]
theorem regOf_pre (il : List Inst) (a b c d : Int) {l l' : List Ent} (j : Nat) (hj : j ≤ l.length) (hj' : j ≤ l'.length) (h : ∀ i, i < j → l'[i]? = l[i]?) (r : Int) : regOf il a b c d l' (j : Int) r = regOf il a b c d l (j : Int) r := by
 rw [regOf_nat _ _ _ _ _ _ _ hj, regOf_nat _ _ _ _ _ _ _ hj', regGo_pre il r _ j h]
theorem valOf_pre (W : Int) (il : List Inst) (a b c d : Int) {l l' : List Ent} (j : Nat) (hj : j ≤ l.length) (hj' : j ≤ l'.length) (h : ∀ i, i < j → l'[i]? = l[i]?) (vr : Bool) (vn : Int) : valOf W il a b c d l' (j : Int) vr vn = valOf W il a b c d l (j : Int) vr vn := by
 unfold valOf
 rw [regOf_pre il a b c d j hj hj' h]
theorem loadOf_pre (il : List Inst) {l l' : List Ent} (mem : List Int) (j : Nat) (hj : j ≤ l.length) (hj' : j ≤ l'.length) (h : ∀ i, i < j → l'[i]? = l[i]?) (ad : Int) : loadOf il l' mem (j : Int) ad = loadOf il l mem (j : Int) ad := by
 rw [q30 _ _ _ _ hj, q30 _ _ _ _ hj', loadGo_pre il mem ad j h]
theorem take_pre {l l' : List Ent} {j : Nat} (h : ∀ i, i < j → l'[i]? = l[i]?) : l'.take j = l.take j := by
 apply List.ext_getElem?
 intro i
 rw [List.getElem?_take, List.getElem?_take]
 split
 ·rename_i hi; exact h i hi
 ·rfl
theorem take_pcs {l l' : List Ent} {j : Nat} (h : ∀ i, i < j → (l'[i]?).map Ent.pc = (l[i]?).map Ent.pc) : (l'.take j).map Ent.pc = (l.take j).map Ent.pc := by
 apply List.ext_getElem?
 intro i
 rw [List.getElem?_map, List.getElem?_map, List.getElem?_take, List.getElem?_take]
 split
 ·rename_i hi; exact h i hi
 ·rfl
theorem sett_later {W : Int} {il : List Inst} {m : Conf} (h : Sett W il m) (i t : Nat) (e e1 : Ent) (h0 : m.buf[i]? = some e) (hp : e1.pc = e.pc) (hnd : e.done = false) (h3 : (instAt il e.pc).kind = 3 → e1.known = e.known ∧ e1.addr = e.addr) (pc' : Int) (buf' : List Ent)
  (hb : buf' = (m.buf.set i e1).take t) (hR : Right W il { m with st := { m.st with pc := pc' }, buf := buf' } i e1 (instAt il e1.pc)) : Sett W il { m with st := { m.st with pc := pc' }, buf := buf' } := by
 have hil := (List.getElem?_eq_some_iff.1 h0).1
 intro j f hj
 have hj : buf'[j]? = some f := hj
 have hjl := (List.getElem?_eq_some_iff.1 hj).1
 have hbl : buf'.length = min t m.buf.length := by rw [hb, List.length_take, List.length_set]
 have hget : ∀ q, q < t → buf'[q]? = if i = q then some e1 else m.buf[q]? := fun q hq => by
  rw [hb, List.getElem?_take, if_pos hq, List.getElem?_set]
  split
  ·rename_i hiq
   subst hiq
   first | rw [if_pos hil] | rfl
  ·rfl
 rw [hget j (by omega)] at hj
 by_cases hij : i = j
 ·subst hij
  rw [if_pos rfl] at hj
  injection hj with hj
  subst hj
  exact hR
 ·rw [if_neg hij] at hj
  refine (h j f hj).keep rfl rfl rfl rfl rfl rfl rfl (fun r ht => ?_) rfl (fun _ _ _ hl => ?_) (fun _ => ?_)
  ·refine regOf_later il _ _ _ _ j (by omega) (by show j ≤ buf'.length; omega) (fun q hq => ?_) r ht
   by_cases hiq : i = q
   ·subst hiq
    exact ⟨e, e1, h0, by show buf'[i]? = _; rw [hget i (by omega), if_pos rfl], ⟨hp, fun hd => by rw [hnd] at hd; cases hd⟩⟩
   ·exact ⟨m.buf[q]'(by omega), m.buf[q]'(by omega), List.getElem?_eq_getElem (by omega), by show buf'[q]? = _; rw [hget q (by omega), if_neg hiq]; exact List.getElem?_eq_getElem (by omega), Later.refl _⟩
  ·rw [q30 _ _ _ _ (by omega)] at hl
   rw [q30 _ _ _ _ (by show j ≤ buf'.length; omega)]
   show loadGo il buf' m.st.mem f.addr j = _
   rw [loadGo_later il (l := m.buf) (l' := buf') m.st.mem f.addr j (fun q hq => ?_) (by rw [hl])]
   ·exact hl
   ·by_cases hiq : i = q
    ·subst hiq
     exact ⟨e, e1, h0, by rw [hget i (by omega), if_pos rfl], ⟨hp, fun k3 => ⟨(h3 k3).1, (h3 k3).2, fun hd => by rw [hnd] at hd; cases hd⟩⟩⟩
    ·exact ⟨m.buf[q]'(by omega), m.buf[q]'(by omega), List.getElem?_eq_getElem (by omega), by rw [hget q (by omega), if_neg hiq]; exact List.getElem?_eq_getElem (by omega), LaterS.refl _ _⟩
  ·refine realOf_pc il _ _ _ (take_pcs fun q hq => ?_)
   show (buf'[q]?).map Ent.pc = _
   rw [hget q (by omega)]
   split
   ·rename_i hiq
    subst hiq
    rw [h0, Option.map_some, Option.map_some, hp]
   ·rfl
theorem sett_do {W win : Int} {il : List Inst} {L k : Nat} {m : Conf} (hP : ProgOk W win il) (hI : Inv win il L k m) (h : Sett W il m) (i : Nat) (hi : i < m.buf.length) (hcan : canOf W il m i = true) : Sett W il (doConf W il m i) := by
 obtain ⟨hf, hd, hc⟩ := canOf_parts hi hcan
 have h0 : m.buf[i]? = some m.buf[i] := List.getElem?_eq_getElem hi
 unfold doConf
 rw [h0]
 simp only [Option.getD_some]
 have hR0 := h i m.buf[i] h0
 generalize m.buf[i] = e at *
 generalize hx : instAt il e.pc = x at *
 -- what is told at its place hangs on what lies ahead
 have hpre : ∀ (e1 : Ent) (q : Nat), q < i → (m.buf.set i e1)[q]? = m.buf[q]? := fun e1 q hq => by rw [List.getElem?_set, if_neg (by omega)]
 have hA : ∀ (e1 : Ent) (pc' : Int) (buf' : List Ent), buf' = (m.buf.set i e1).take m.buf.length ∨ buf' = (m.buf.set i e1).take (i + 1) → (∀ q, q < i → buf'[q]? = m.buf[q]?) ∧ i ≤ buf'.length := fun e1 pc' buf' hb => by
  rcases hb with rfl | rfl
  ·exact ⟨fun q hq => by rw [List.getElem?_take, if_pos (by omega)]; exact hpre e1 q hq, by rw [List.length_take, List.length_set]; omega⟩
  ·exact ⟨fun q hq => by rw [List.getElem?_take, if_pos (by omega)]; exact hpre e1 q hq, by rw [List.length_take, List.length_set]; omega⟩
 have hvA : ∀ (buf' : List Ent) (pc' : Int), (∀ q, q < i → buf'[q]? = m.buf[q]?) → i ≤ buf'.length → aOf W il { m with st := { m.st with pc := pc' }, buf := buf' } i x = aOf W il m i x ∧ bOf W il { m with st := { m.st with pc := pc' }, buf := buf' } i x = bOf W il m i x ∧ dOf il { m with st := { m.st with pc := pc' }, buf := buf' } i x = dOf il m i x := fun buf' pc' h1 h2 =>
  ⟨valOf_pre W il _ _ _ _ i (by omega) h2 h1 _ _, valOf_pre W il _ _ _ _ i (by omega) h2 h1 _ _, regOf_pre il _ _ _ _ i (by omega) h2 h1 _⟩
 obtain ⟨n1, n2, n3⟩ := hvA (m.buf.set i { e with done := true }) m.st.pc (hpre _) (by rw [List.length_set]; omega)
 have n1 : aOf W il { m with buf := m.buf.set i { e with done := true } } i x = aOf W il m i x := n1
 have n2 : bOf W il { m with buf := m.buf.set i { e with done := true } } i x = bOf W il m i x := n2
 have n3 : dOf il { m with buf := m.buf.set i { e with done := true } } i x = dOf il m i x := n3
 have one : ∀ e1 : Ent, e1.pc = e.pc → (x.kind = 3 → e1.known = e.known ∧ e1.addr = e.addr) → (∀ m' : Conf, m'.st.mem = m.st.mem → aOf W il m' i x = aOf W il m i x → bOf W il m' i x = bOf W il m i x → dOf il m' i x = dOf il m i x → (∀ ad, loadOf il m'.buf m'.st.mem i ad = loadOf il m.buf m.st.mem i ad) → realOf il m'.st.stack (m'.buf.take i) = realOf il m.st.stack (m.buf.take i) → Right W il m' i e1 x) → Sett W il { m with st := { m.st with pc := m.st.pc }, buf := m.buf.set i e1 } := fun e1 hp h3 hr => by
  have hb : m.buf.set i e1 = (m.buf.set i e1).take m.buf.length := by rw [List.take_of_length_le (by rw [List.length_set]; exact Nat.le_refl _)]
  refine sett_later h i m.buf.length e e1 h0 hp hd (by rw [hx]; exact h3) m.st.pc (m.buf.set i e1) hb ?_
  rw [hp, hx]
  obtain ⟨q1, q2, q3⟩ := hvA (m.buf.set i e1) m.st.pc (hpre e1) (by rw [List.length_set]; omega)
  exact hr _ rfl q1 q2 q3 (fun ad => loadOf_pre il m.st.mem i (by omega) (by rw [List.length_set]; omega) (hpre e1) ad) (by show realOf il m.st.stack ((m.buf.set i e1).take i) = _; rw [take_pre (hpre e1)])
 have two : ∀ t : Int, x.kind ≠ 3 → (∀ m' : Conf, m'.st.mem = m.st.mem → aOf W il m' i x = aOf W il m i x → bOf W il m' i x = bOf W il m i x → dOf il m' i x = dOf il m i x → realOf il m'.st.stack (m'.buf.take i) = realOf il m.st.stack (m.buf.take i) → Right W il m' i { e with done := true, next := t } x) →
   Sett W il { m with st := { m.st with pc := goesPc (m.buf.set i { e with done := true }) i t m.st.pc }, buf := goesBuf (m.buf.set i { e with done := true }) i t } := fun t hk3 hr => by
  have hg : (m.buf.set i { e with done := true })[i]? = some { e with done := true } := by rw [List.getElem?_set, if_pos rfl, if_pos hi]
  unfold goesBuf goesPc
  rw [hg]
  simp only
  split
  ·rename_i hnt
   have he : ({ e with done := true } : Ent) = { e with done := true, next := t } := by rw [← hnt]
   rw [he]
   exact one { e with done := true, next := t } rfl (fun k => absurd k hk3) (fun m' q1 q2 q3 q4 _ q6 => hr m' q1 q2 q3 q4 q6)
  ·rw [List.set_set]
   have hp2 : ∀ q, q < i → ((m.buf.set i { e with done := true, next := t }).take (i + 1))[q]? = m.buf[q]? := fun q hq => by rw [List.getElem?_take, if_pos (by omega)]; exact hpre _ q hq
   have hl2 : i ≤ ((m.buf.set i { e with done := true, next := t }).take (i + 1)).length := by rw [List.length_take, List.length_set]; omega
   refine sett_later h i (i + 1) e { e with done := true, next := t } h0 rfl hd (by rw [hx]; exact fun k => absurd k hk3) t _ rfl ?_
   show Right W il _ i _ (instAt il e.pc)
   rw [hx]
   obtain ⟨q1, q2, q3⟩ := hvA _ t hp2 hl2
   exact hr _ rfl q1 q2 q3 (by show realOf il m.st.stack (((m.buf.set i { e with done := true, next := t }).take (i + 1)).take i) = _; rw [take_pre hp2])
 have hcu := hc
 unfold canIn at hcu
 unfold doOut
 simp only
 by_cases k1 : x.kind = 1
 ·rw [if_pos (.inl k1)] at hcu
  rw [if_pos k1]
  simp only [Bool.and_eq_true] at hcu
  exact one _ rfl (fun k => by omega) fun m' q1 q2 q3 q4 _ _ => { nx := fun k => hR0.nx k, nf := fun k => hR0.nf k, alu := fun _ _ => by rw [q2, q3, n1, n2]; exact ⟨hcu.1, hcu.2, rfl⟩, cm := fun k => by omega, ld := fun k => by omega, lf := fun k => by omega, ll := fun k => by omega, l0 := fun k => by omega, l0f := fun k => by omega, sk := fun k => by omega, sn := fun k => by omega, sd := fun k => by omega, br := fun k => by omega, jm := fun k => by omega, ij := fun k => by omega, ca := fun k => by omega, re := fun k => by omega, r0f := fun k => by omega }
 rw [if_neg k1]
 by_cases k4 : x.kind = 4
 ·rw [if_neg (by omega), if_pos k4] at hcu
  rw [if_pos k4]
  simp only [Bool.and_eq_true] at hcu
  exact one _ rfl (fun k => by omega) fun m' q1 q2 q3 q4 _ _ => { nx := fun k => hR0.nx k, nf := fun k => hR0.nf k, alu := fun k => by omega, cm := fun _ _ => by rw [q2, q3, q4, n1, n2, n3]; exact ⟨hcu.1.1, hcu.1.2, hcu.2, rfl⟩, ld := fun k => by omega, lf := fun k => by omega, ll := fun k => by omega, l0 := fun k => by omega, l0f := fun k => by omega, sk := fun k => by omega, sn := fun k => by omega, sd := fun k => by omega, br := fun k => by omega, jm := fun k => by omega, ij := fun k => by omega, ca := fun k => by omega, re := fun k => by omega, r0f := fun k => by omega }
 rw [if_neg k4]
 by_cases k3 : x.kind = 3
 ·rw [if_neg (by omega), if_neg k4, if_neg (by omega), if_pos k3] at hcu
  rw [if_pos k3]
  exact one _ rfl (fun k => ⟨rfl, rfl⟩) fun m' q1 q2 q3 q4 _ _ => { nx := fun k => hR0.nx k, nf := fun k => hR0.nf k, alu := fun k => by omega, cm := fun k => by omega, ld := fun k => by omega, lf := fun k => by omega, ll := fun k => by omega, l0 := fun k => by omega, l0f := fun k => by omega, sk := fun k g => by rw [q2, q3, q1]; exact hR0.sk k g, sn := fun k g => hR0.sn k g, sd := fun _ _ => by rw [q4, n3]; exact ⟨hcu, rfl⟩, br := fun k => by omega, jm := fun k => by omega, ij := fun k => by omega, ca := fun k => by omega, re := fun k => by omega, r0f := fun k => by omega }
 rw [if_neg k3]
 by_cases k2 : x.kind = 2
 ·rw [if_neg (by omega), if_neg k4, if_pos k2] at hcu
  rw [if_pos k2]
  simp only [Bool.and_eq_true, Bool.or_eq_true, decide_eq_true_eq] at hcu
  rw [n1, n2]
  split
  ·rename_i hle
   exact one _ rfl (fun k => by omega) fun m' q1 q2 q3 q4 _ _ => { nx := fun k => hR0.nx k, nf := fun k => by omega, alu := fun k => by omega, cm := fun k => by omega, ld := fun _ _ => by rw [q2, q3]; exact ⟨hcu.1.1, hcu.1.2, rfl, rfl⟩, lf := fun _ _ _ => rfl, ll := fun _ _ q => by rw [q1] at q; exact absurd q (Int.not_lt.2 hle), l0 := fun _ g => (by cases g), l0f := fun _ g => (by cases g), sk := fun k => by omega, sn := fun k => by omega, sd := fun k => by omega, br := fun k => by omega, jm := fun k => by omega, ij := fun k => by omega, ca := fun k => by omega, re := fun k => by omega, r0f := fun k => by omega }
  ·rename_i hle
   have hlo : ∀ e2 : Ent, loadOf il (m.buf.set i e2) m.st.mem i (maskW W ((aOf W il m i x).1 + (bOf W il m i x).1)) = loadOf il m.buf m.st.mem i (maskW W ((aOf W il m i x).1 + (bOf W il m i x).1)) := fun e2 => loadOf_pre il m.st.mem i (by omega) (by rw [List.length_set]; omega) (hpre e2) _
   rw [hlo]
   have htold : (loadOf il m.buf m.st.mem i (maskW W ((aOf W il m i x).1 + (bOf W il m i x).1))).2.2 = true := by
    rcases hcu.2 with g | g
    ·exact absurd g hle
    ·exact g
   exact one _ rfl (fun k => by omega) fun m' q1 q2 q3 q4 q5 _ => { nx := fun k => hR0.nx k, nf := fun k => hR0.nf k, alu := fun k => by omega, cm := fun k => by omega, ld := fun _ _ => by rw [q2, q3]; exact ⟨hcu.1.1, hcu.1.2, rfl, rfl⟩, lf := fun _ _ q => by rw [q1] at q; exact absurd q hle, ll := fun k _ _ => ⟨hR0.l0f k hd, by show loadOf il m'.buf m'.st.mem i (maskW W ((aOf W il m i x).1 + (bOf W il m i x).1)) = _; rw [q5]; exact Prod.ext rfl (Prod.ext rfl htold)⟩, l0 := fun _ g => (by cases g), l0f := fun _ g => (by cases g), sk := fun k => by omega, sn := fun k => by omega, sd := fun k => by omega, br := fun k => by omega, jm := fun k => by omega, ij := fun k => by omega, ca := fun k => by omega, re := fun k => by omega, r0f := fun k => by omega }
 rw [if_neg k2]
 by_cases k5 : x.kind = 5
 ·rw [if_pos (.inr k5)] at hcu
  rw [if_pos k5, n1, n2]
  simp only [Bool.and_eq_true] at hcu
  exact two _ k3 fun m' q1 q2 q3 q4 _ => { nx := fun k => by omega, nf := fun k => hR0.nf k, alu := fun k => by omega, cm := fun k => by omega, ld := fun k => by omega, lf := fun k => by omega, ll := fun k => by omega, l0 := fun k => by omega, l0f := fun k => by omega, sk := fun k => by omega, sn := fun k => by omega, sd := fun k => by omega, br := fun _ _ => by rw [q2, q3]; exact ⟨hcu.1, hcu.2, rfl⟩, jm := fun k => by omega, ij := fun k => by omega, ca := fun k => by omega, re := fun k => by omega, r0f := fun k => by omega }
 rw [if_neg k5]
 by_cases k7 : x.kind = 7
 ·rw [if_neg (by omega), if_neg k4, if_neg k2, if_neg k3, if_pos k7] at hcu
  rw [if_pos k7, n1]
  exact two _ k3 fun m' q1 q2 q3 q4 _ => { nx := fun k => by omega, nf := fun k => hR0.nf k, alu := fun k => by omega, cm := fun k => by omega, ld := fun k => by omega, lf := fun k => by omega, ll := fun k => by omega, l0 := fun k => by omega, l0f := fun k => by omega, sk := fun k => by omega, sn := fun k => by omega, sd := fun k => by omega, br := fun k => by omega, jm := fun k => by omega, ij := fun _ _ => by rw [q2]; exact ⟨hcu, rfl⟩, ca := fun k => by omega, re := fun k => by omega, r0f := fun k => by omega }
 rw [if_neg k7]
 rw [if_neg (by omega), if_neg k4, if_neg k2, if_neg k3, if_neg k7] at hcu
 have k9 : x.kind = 9 := by simpa using hcu
 have htk : (m.buf.set i { e with done := true }).take i = m.buf.take i := by rw [List.take_set_of_le (Nat.le_refl _)]
 rw [htk]
 have hff : ∀ (hr : (match realOf il m.st.stack (m.buf.take i) with | none => True | some s => s.getLast? = none)), Sett W il { m with st := { m.st with pc := m.st.pc }, buf := m.buf.set i { e with done := true, fault := true } } := fun hr => by
  have hre : ∀ m' : Conf, realOf il m'.st.stack (m'.buf.take i) = realOf il m.st.stack (m.buf.take i) → (match realOf il m'.st.stack (m'.buf.take i) with | none => true = true | some s => (match s.getLast? with | none => true = true | some t => true = false ∧ e.next = t)) := fun m' q6 => by
   rw [q6]
   cases hr0 : realOf il m.st.stack (m.buf.take i) with
   | none => rfl
   | some s =>
    rw [hr0] at hr
    simp only at hr ⊢
    simp only [hr]
  refine one _ rfl (fun k => by omega) fun m' q1 q2 q3 q4 _ q6 => ?_
  exact { nx := fun k => hR0.nx k, nf := fun k => by omega, alu := fun k => by omega, cm := fun k => by omega, ld := fun k => by omega, lf := fun k => by omega, ll := fun k => by omega, l0 := fun k => by omega, l0f := fun k => by omega, sk := fun k => by omega, sn := fun k => by omega, sd := fun k => by omega, br := fun k => by omega, jm := fun k => by omega, ij := fun k => by omega, ca := fun k => by omega, r0f := fun _ g => (by cases g), re := fun _ _ => hre m' q6 }
 cases hr : realOf il m.st.stack (m.buf.take i) with
 | none => exact hff (by rw [hr]; trivial)
 | some s =>
  simp only
  cases hg : s.getLast? with
  | none => exact hff (by rw [hr]; exact hg)
  | some t =>
   simp only
   refine two t k3 fun m' q1 q2 q3 q4 q6 => ?_
   exact { nx := fun k => by omega, nf := fun k => hR0.nf k, alu := fun k => by omega, cm := fun k => by omega, ld := fun k => by omega, lf := fun k => by omega, ll := fun k => by omega, l0 := fun k => by omega, l0f := fun k => by omega, sk := fun k => by omega, sn := fun k => by omega, sd := fun k => by omega, br := fun k => by omega, jm := fun k => by omega, ij := fun k => by omega, ca := fun k => by omega, r0f := fun _ g => (by cases g), re := fun _ _ => by rw [q6, hr]; simp only [hg]; exact ⟨hR0.r0f k9 hd, trivial⟩ }
theorem hazL_none (il : List Inst) (i addr : Int) : ∀ (l : List Ent) (k : Nat) (t : Option Nat), hazL il i addr l k = t → ∀ (q : Nat) (f : Ent), l[q]? = some f → (∀ j, t = some j → k + q < j) → ¬ ((instAt il f.pc).kind = 2 ∧ f.known = true ∧ f.addr = addr ∧ f.frm < i)
 | [], _, _, _, q, f, hq, _ => by cases q <;> cases hq
 | e :: l, k, t, h, q, f, hq, hj => by
  rw [hazL] at h
  rintro ⟨g1, g2, g3, g4⟩
  split at h
  ·have := hj k h.symm
   omega
  ·rename_i hn
   cases q with
   | zero =>
    rw [List.getElem?_cons_zero] at hq
    injection hq with hq
    subst hq
    apply hn
    rw [g1, g2, g3]
    simpa using g4
   | succ q =>
    rw [List.getElem?_cons_succ] at hq
    exact hazL_none il i addr l (k + 1) t h q f hq (fun j hjt => by have := hj j hjt; omega) ⟨g1, g2, g3, g4⟩
theorem hazOf_none {il : List Inst} {i : Nat} {addr : Int} {l : List Ent} (hi : i < l.length) (t : Option Nat) (h : hazOf il l i addr = t) (q : Nat) (hq : i < q) (f : Ent) (hf : l[q]? = some f) (hj : ∀ j, t = some j → q < j) : ¬ ((instAt il f.pc).kind = 2 ∧ f.known = true ∧ f.addr = addr ∧ f.frm < (i : Int)) := by
 unfold hazOf at h
 have hn : (min (max (i : Int) (-1)) (l.length : Int) + 1).toNat = i + 1 := by omega
 rw [hn] at h
 refine hazL_none il i addr _ _ t h (q - (i + 1)) f ?_ (fun j hjt => by have := hj j hjt; omega)
 rw [List.getElem?_drop]
 rw [show i + 1 + (q - (i + 1)) = q by omega]
 exact hf
theorem sett_told {W : Int} {il : List Inst} {m : Conf} (h : Sett W il m) (i t : Nat) (hit : i < t) (e e1 : Ent) (h0 : m.buf[i]? = some e) (hp : e1.pc = e.pc) (hk : e.known = false) (hv : e1.val = e.val) (hdn : e1.done = e.done) (h3 : (instAt il e.pc).kind = 3) (pc' : Int) (buf' : List Ent) (hb : buf' = (m.buf.set i e1).take t)
  (hno : ∀ (j : Nat) (f : Ent), i < j → j < t → m.buf[j]? = some f → (instAt il f.pc).kind = 2 → f.done = true → f.addr < m.st.mem.length → e1.addr ≠ f.addr ∨ (i : Int) ≤ f.frm)
  (hR : Right W il { m with st := { m.st with pc := pc' }, buf := buf' } i e1 (instAt il e1.pc)) : Sett W il { m with st := { m.st with pc := pc' }, buf := buf' } := by
 have hil := (List.getElem?_eq_some_iff.1 h0).1
 intro j f hj
 have hj : buf'[j]? = some f := hj
 have hjl := (List.getElem?_eq_some_iff.1 hj).1
 have hbl : buf'.length = min t m.buf.length := by rw [hb, List.length_take, List.length_set]
 have hget : ∀ q, q < t → buf'[q]? = if i = q then some e1 else m.buf[q]? := fun q hq => by
  rw [hb, List.getElem?_take, if_pos hq, List.getElem?_set]
  split
  ·rename_i hiq
   subst hiq
   first | rw [if_pos hil] | rfl
  ·rfl
 rw [hget j (by omega)] at hj
 by_cases hij : i = j
 ·subst hij
  rw [if_pos rfl] at hj
  injection hj with hj
  subst hj
  exact hR
 ·rw [if_neg hij] at hj
  refine (h j f hj).keep rfl rfl rfl rfl rfl rfl rfl (fun r ht => ?_) rfl (fun k2 hdn2 hlt hl => ?_) (fun _ => ?_)
  ·refine regOf_later il _ _ _ _ j (by omega) (by show j ≤ buf'.length; omega) (fun q hq => ?_) r ht
   by_cases hiq : i = q
   ·subst hiq
    exact ⟨e, e1, h0, by show buf'[i]? = _; rw [hget i (by omega), if_pos rfl], ⟨hp, fun hd => ⟨by rw [hdn]; exact hd, hv⟩⟩⟩
   ·exact ⟨m.buf[q]'(by omega), m.buf[q]'(by omega), List.getElem?_eq_getElem (by omega), by show buf'[q]? = _; rw [hget q (by omega), if_neg hiq]; exact List.getElem?_eq_getElem (by omega), Later.refl _⟩
  ·rw [q30 _ _ _ _ (by omega)] at hl
   rw [q30 _ _ _ _ (by show j ≤ buf'.length; omega)]
   show loadGo il buf' m.st.mem f.addr j = _
   have hsame : loadGo il buf' m.st.mem f.addr j = loadGo il (m.buf.set i e1) m.st.mem f.addr j := loadGo_pre il m.st.mem f.addr j (fun q hq => by rw [hb, List.getElem?_take, if_pos (by omega)])
   rw [hsame]
   by_cases hji : j < i
   ·rw [loadGo_pre il (l := m.buf) m.st.mem f.addr j (fun q hq => by rw [List.getElem?_set, if_neg (by omega)])]
    exact hl
   ·exact loadGo_told il m.st.mem f.addr i e e1 h0 hp hk f.val f.frm j (by omega) hl (hno j f (by omega) (by omega) hj k2 hdn2 hlt)
  ·refine realOf_pc il _ _ _ (take_pcs fun q hq => ?_)
   show (buf'[q]?).map Ent.pc = _
   rw [hget q (by omega)]
   split
   ·rename_i hiq
    subst hiq
    rw [h0, Option.map_some, Option.map_some, hp]
   ·rfl
theorem sett_addr {W : Int} {il : List Inst} {m : Conf} (h : Sett W il m) (i : Nat) (hi : i < m.buf.length) (hcan : canAddrOf W il m i = true) : Sett W il (addrConf W il m i) := by
 have h0 : m.buf[i]? = some m.buf[i] := List.getElem?_eq_getElem hi
 obtain ⟨hf, hkn, hc⟩ := canAddr_parts hi hcan
 unfold addrConf
 rw [h0]
 simp only [Option.getD_some]
 have hR0 := h i m.buf[i] h0
 generalize m.buf[i] = e at *
 unfold canAddrIn at hc
 simp only [Bool.and_eq_true, beq_iff_eq] at hc
 obtain ⟨k3, ha, hb⟩ := hc
 have hpre : ∀ (e1 : Ent) (q : Nat), q < i → (m.buf.set i e1)[q]? = m.buf[q]? := fun e1 q hq => by rw [List.getElem?_set, if_neg (by omega)]
 have right : ∀ (e1 : Ent) (pc' : Int) (buf' : List Ent), (∀ q, q < i → buf'[q]? = m.buf[q]?) → i ≤ buf'.length → e1.pc = e.pc → e1.next = e.next → e1.val = e.val → e1.done = e.done → e1.known = true → e1.addr = maskW W ((aOf W il m i (instAt il e.pc)).1 + (bOf W il m i (instAt il e.pc)).1) → e1.fault = decide ((m.st.mem.length : Int) ≤ e1.addr) → Right W il { m with st := { m.st with pc := pc' }, buf := buf' } i e1 (instAt il e1.pc) := fun e1 pc' buf' h1 h2 p1 p2 p3 p4 p5 p6 p7 => by
  have n1 : aOf W il { m with st := { m.st with pc := pc' }, buf := buf' } i (instAt il e.pc) = aOf W il m i (instAt il e.pc) := valOf_pre W il _ _ _ _ i (by omega) h2 h1 _ _
  have n2 : bOf W il { m with st := { m.st with pc := pc' }, buf := buf' } i (instAt il e.pc) = bOf W il m i (instAt il e.pc) := valOf_pre W il _ _ _ _ i (by omega) h2 h1 _ _
  have n3 : dOf il { m with st := { m.st with pc := pc' }, buf := buf' } i (instAt il e.pc) = dOf il m i (instAt il e.pc) := regOf_pre il _ _ _ _ i (by omega) h2 h1 _
  rw [p1]
  generalize instAt il e.pc = x at *
  exact { nx := fun k => by rw [p2, p1]; exact hR0.nx k, nf := fun k => by omega, alu := fun k => by omega, cm := fun k => by omega, ld := fun k => by omega, lf := fun k => by omega, ll := fun k => by omega, l0 := fun k => by omega, l0f := fun k => by omega, sk := fun _ _ => by rw [n1, n2]; exact ⟨ha, hb, p6, p7⟩, sn := fun _ g => (by rw [p5] at g; cases g), sd := fun k g => (by rw [n3, p3]; rw [p4] at g; exact hR0.sd k g), br := fun k => by omega, jm := fun k => by omega, ij := fun k => by omega, ca := fun k => by omega, re := fun k => by omega, r0f := fun k => by omega }
 unfold addrOut
 simp only
 generalize hadd : maskW W ((aOf W il m i (instAt il e.pc)).1 + (bOf W il m i (instAt il e.pc)).1) = ad at *
 have hall : ∀ e1 : Ent, m.buf.set i e1 = (m.buf.set i e1).take m.buf.length := fun e1 => by rw [List.take_of_length_le (by rw [List.length_set]; exact Nat.le_refl _)]
 have hsl : ∀ e1 : Ent, i ≤ (m.buf.set i e1).length := fun e1 => by rw [List.length_set]; omega
 split
 ·rename_i hle
  refine sett_told h i m.buf.length hi e { e with addr := ad, known := true, fault := true } h0 rfl hkn rfl rfl k3 m.st.pc _ (hall _) (fun j f _ _ _ _ _ hlt => .inl ?_) (right { e with addr := ad, known := true, fault := true } _ _ (hpre _) (hsl _) rfl rfl rfl rfl rfl rfl ?_)
  ·show ad ≠ f.addr
   omega
  ·show true = decide _
   exact (decide_eq_true hle).symm
 ·rename_i hle
  have hf2 : e.fault = decide ((m.st.mem.length : Int) ≤ ad) := by rw [hR0.sn k3 hkn]; exact (decide_eq_false hle).symm
  have hset : ∀ (j : Nat) (f : Ent), i < j → m.buf[j]? = some f → (m.buf.set i { e with addr := ad, known := true })[j]? = some f := fun j f hij hjf => by rw [List.getElem?_set, if_neg (by omega)]; exact hjf
  have hno : ∀ (t : Option Nat), hazOf il (m.buf.set i { e with addr := ad, known := true }) i ad = t → ∀ (j : Nat) (f : Ent), i < j → (∀ q, t = some q → j < q) → m.buf[j]? = some f → (instAt il f.pc).kind = 2 → f.done = true → f.addr < m.st.mem.length → ad ≠ f.addr ∨ (i : Int) ≤ f.frm := fun t ht j f hij hjt hjf k2 hdn _ => by
   have := hazOf_none (by rw [List.length_set]; exact hi) t ht j hij f (hset j f hij hjf) hjt
   have hk2 := ((h j f hjf).ld k2 hdn).2.2.1
   by_cases hq : ad = f.addr
   ·right
    by_cases hfr : f.frm < (i : Int)
    ·exact absurd ⟨k2, hk2, hq.symm, hfr⟩ this
    ·omega
   ·exact .inl hq
  cases hz : hazOf il (m.buf.set i { e with addr := ad, known := true }) i ad with
  | none => exact sett_told h i m.buf.length hi e { e with addr := ad, known := true } h0 rfl hkn rfl rfl k3 m.st.pc _ (hall _) (fun j f hij hjt hjf => hno none hz j f hij (fun _ hq => by cases hq) hjf) (right { e with addr := ad, known := true } _ _ (hpre _) (hsl _) rfl rfl rfl rfl rfl rfl hf2)
  | some j =>
   obtain ⟨h2, h3⟩ := hazOf_lt (by rw [List.length_set]; exact hi) hz
   refine sett_told h i j h2 e { e with addr := ad, known := true } h0 rfl hkn rfl rfl k3 _ _ rfl (fun q f hiq hqj hqf => hno (some j) hz q f hiq (fun _ hq => by injection hq with hq; omega) hqf) (right { e with addr := ad, known := true } _ _ (fun q hq => ?_) ?_ rfl rfl rfl rfl rfl rfl hf2)
   ·rw [List.getElem?_take, if_pos (by omega)]
    exact hpre _ q hq
   ·rw [List.length_take, List.length_set]
    omega
theorem fetch_right {W : Int} {il : List Inst} {m : Conf} (m' : Conf) (j : Nat) (g : Int) (hs : m'.st.stack = m.st.stack) (ht : m'.buf.take j = m.buf) : Right W il m' j (fetchEnt il m g).1 (instAt il (fetchEnt il m g).1.pc) := by
 have hpc : (fetchEnt il m g).1.pc = m.st.pc := by
  unfold fetchEnt
  simp only
  repeat' split
  all_goals rfl
 rw [hpc]
 unfold fetchEnt
 simp only
 generalize instAt il m.st.pc = x
 have plain : ∀ e : Ent, e.done = false → e.known = false → e.fault = false → ((x.kind = 1 ∨ x.kind = 2 ∨ x.kind = 3 ∨ x.kind = 4 ∨ x.kind = 10) → e.next = e.pc + 1) → x.kind ≠ 6 → x.kind ≠ 8 → Right W il m' j e x := fun e h1 h2 h3 h4 h6 h8 =>
  { nx := h4, nf := fun _ => h3, alu := fun _ q => (by rw [h1] at q; cases q), cm := fun _ q => (by rw [h1] at q; cases q), ld := fun _ q => (by rw [h1] at q; cases q), lf := fun _ q => (by rw [h1] at q; cases q), ll := fun _ q => (by rw [h1] at q; cases q), l0 := fun _ _ => h2, l0f := fun _ _ => h3, r0f := fun _ _ => h3, sk := fun _ q => (by rw [h2] at q; cases q), sn := fun _ _ => h3, sd := fun _ q => (by rw [h1] at q; cases q), br := fun _ q => (by rw [h1] at q; cases q), jm := fun k => absurd k h6, ij := fun _ q => (by rw [h1] at q; cases q), ca := fun k => absurd k h8, re := fun _ q => (by rw [h1] at q; cases q) }
 by_cases k5 : x.kind = 5
 ·rw [if_pos k5]
  split
  ·exact plain _ rfl rfl rfl (fun _ => by omega) (by omega) (by omega)
  ·exact plain _ rfl rfl rfl (fun _ => rfl) (by omega) (by omega)
 rw [if_neg k5]
 by_cases k6 : x.kind = 6
 ·rw [if_pos k6]
  exact { nx := fun _ => by omega, nf := fun _ => rfl, alu := fun _ => by omega, cm := fun _ => by omega, ld := fun _ => by omega, lf := fun _ => by omega, ll := fun _ => by omega, l0 := fun _ => by omega, l0f := fun _ => by omega, r0f := fun _ => by omega, sk := fun _ => by omega, sn := fun _ => by omega, sd := fun _ => by omega, br := fun _ => by omega, jm := fun _ => rfl, ij := fun _ => by omega, ca := fun _ => by omega, re := fun _ => by omega }
 rw [if_neg k6]
 by_cases k7 : x.kind = 7
 ·rw [if_pos k7]
  exact plain _ rfl rfl rfl (fun _ => by omega) (by omega) (by omega)
 rw [if_neg k7]
 by_cases k9 : x.kind = 9
 ·rw [if_pos k9]
  cases m.rsb.getLast? with
  | none => exact plain _ rfl rfl rfl (fun _ => by omega) (by omega) (by omega)
  | some t => exact plain _ rfl rfl rfl (fun _ => by omega) (by omega) (by omega)
 rw [if_neg k9]
 by_cases k8 : x.kind = 8
 ·rw [if_pos k8]
  exact { nx := fun _ => by omega, nf := fun _ => by omega, alu := fun _ => by omega, cm := fun _ => by omega, ld := fun _ => by omega, lf := fun _ => by omega, ll := fun _ => by omega, l0 := fun _ => by omega, l0f := fun _ => by omega, r0f := fun _ => by omega, sk := fun _ => by omega, sn := fun _ => by omega, sd := fun _ => by omega, br := fun _ => by omega, jm := fun _ => by omega, ij := fun _ => by omega, ca := fun _ => ⟨rfl, by first | (rw [hs, ht]; done) | (rw [hs, ht]; rfl)⟩, re := fun _ => by omega }
 rw [if_neg k8]
 by_cases k11 : x.kind = 11 ∨ x.kind = 12
 ·rw [if_pos k11]
  exact { nx := fun _ => by omega, nf := fun _ => rfl, alu := fun _ => by omega, cm := fun _ => by omega, ld := fun _ => by omega, lf := fun _ => by omega, ll := fun _ => by omega, l0 := fun _ => by omega, l0f := fun _ => by omega, r0f := fun _ => by omega, sk := fun _ => by omega, sn := fun _ => by omega, sd := fun _ => by omega, br := fun _ => by omega, jm := fun _ => by omega, ij := fun _ => by omega, ca := fun _ => by omega, re := fun _ => by omega }
 ·rw [if_neg k11]
  exact plain _ rfl rfl rfl (fun _ => rfl) (by omega) (by omega)
theorem sett_fetch {W : Int} {il : List Inst} {m : Conf} (h : Sett W il m) (g : Int) : Sett W il (fetchOf il m g) := by
 intro j f hj
 unfold fetchOf at hj ⊢
 simp only at hj
 have hpre : ∀ q, q < m.buf.length → (m.buf ++ [(fetchEnt il m g).1])[q]? = m.buf[q]? := fun q hq => List.getElem?_append_left hq
 by_cases hjl : j < m.buf.length
 ·rw [hpre j hjl] at hj
  refine (h j f hj).keep rfl rfl rfl rfl rfl rfl rfl (fun r _ => ?_) rfl (fun _ _ _ hl => ?_) (fun _ => ?_)
  ·exact regOf_pre il _ _ _ _ j (by omega) (by show j ≤ (m.buf ++ _).length; rw [List.length_append]; omega) (fun q hq => hpre q (by omega)) r
  ·rw [← hl]
   exact loadOf_pre il m.st.mem j (by omega) (by show j ≤ (m.buf ++ _).length; rw [List.length_append]; omega) (fun q hq => hpre q (by omega)) _
  ·show realOf il m.st.stack ((m.buf ++ _).take j) = _
   rw [List.take_append_of_le_length (by omega)]
 ·have hjb : j = m.buf.length := by
   have := (List.getElem?_eq_some_iff.1 hj).1
   rw [List.length_append, List.length_singleton] at this
   omega
  subst hjb
  rw [List.getElem?_append_right (Nat.le_refl _), Nat.sub_self, List.getElem?_cons_zero] at hj
  injection hj with hj
  subst hj
  exact fetch_right _ _ g rfl (by show (m.buf ++ _).take m.buf.length = m.buf; rw [List.take_append_of_le_length (Nat.le_refl _), List.take_length])
theorem regsAt_setReg (s : State) (d v r : Int) (hd : 0 ≤ d ∧ d ≤ 3) (hr : 0 ≤ r ∧ r ≤ 3) : regsAt (setReg s d v).r0 (setReg s d v).r1 (setReg s d v).r2 (setReg s d v).r3 r = if d = r then v else regsAt s.r0 s.r1 s.r2 s.r3 r := by
 have h1 : d = 0 ∨ d = 1 ∨ d = 2 ∨ d = 3 := by omega
 have h2 : r = 0 ∨ r = 1 ∨ r = 2 ∨ r = 3 := by omega
 rcases h1 with rfl | rfl | rfl | rfl <;> rcases h2 with rfl | rfl | rfl | rfl <;> rfl
theorem sett_pop {W : Int} {il : List Inst} {m : Conf} (hW : W = 1 ∨ W = 2) (h : Sett W il m) {e : Ent} {t : List Ent} (hb : m.buf = e :: t) (st' : State) (rsb : List Int) (fin : Int)
  (hr1 : ∀ r, 0 ≤ r ∧ r ≤ 3 → (destOf (instAt il e.pc)).2 = true ∧ (destOf (instAt il e.pc)).1 = r → e.done = true ∧ regsAt st'.r0 st'.r1 st'.r2 st'.r3 r = e.val)
  (hr2 : ∀ r, 0 ≤ r ∧ r ≤ 3 → ¬ ((destOf (instAt il e.pc)).2 = true ∧ (destOf (instAt il e.pc)).1 = r) → regsAt st'.r0 st'.r1 st'.r2 st'.r3 r = regsAt m.st.r0 m.st.r1 m.st.r2 m.st.r3 r)
  (hm1 : (instAt il e.pc).kind = 3 → e.known = true ∧ e.done = true ∧ 0 ≤ e.addr ∧ e.addr < m.st.mem.length ∧ st'.mem = m.st.mem.set e.addr.toNat e.val) (hm2 : (instAt il e.pc).kind ≠ 3 → st'.mem = m.st.mem) (hml : st'.mem.length = m.st.mem.length)
  (hs : ∀ l : List Ent, realOf il m.st.stack (e :: l) = realOf il st'.stack l) : Sett W il { st := st', buf := t.map Ent.down, rsb := rsb, fin := fin } := by
 intro j f hj
 have hj : (t.map Ent.down)[j]? = some f := hj
 rw [List.getElem?_map, Option.map_eq_some_iff] at hj
 obtain ⟨b, hbj, rfl⟩ := hj
 have hjl := (List.getElem?_eq_some_iff.1 hbj).1
 have hbj' : m.buf[j + 1]? = some b := by rw [hb, List.getElem?_cons_succ]; exact hbj
 have hd : b.down.pc = b.pc ∧ b.down.val = b.val ∧ b.down.addr = b.addr ∧ b.down.next = b.next ∧ b.down.done = b.done ∧ b.down.known = b.known ∧ b.down.fault = b.fault := by unfold Ent.down; split <;> exact ⟨rfl, rfl, rfl, rfl, rfl, rfl, rfl⟩
 have hR := h (j + 1) b hbj'
 rw [hd.1]
 refine hR.keep hd.1 hd.2.1 hd.2.2.1 hd.2.2.2.1 hd.2.2.2.2.1 hd.2.2.2.2.2.1 hd.2.2.2.2.2.2 (fun r _ => ?_) hml (fun k2 hdn hlt hl => ?_) (fun _ => ?_)
 ·rw [regOf_nat _ _ _ _ _ _ _ (by show j ≤ (t.map Ent.down).length; rw [List.length_map]; omega), regOf_nat _ _ _ _ _ _ _ (by rw [hb, List.length_cons]; omega)]
  split
  ·rfl
  ·rename_i hr
   rw [hb]
   exact regGo_pop il e t r _ _ (hr1 r (by omega)) (hr2 r (by omega)) j (by omega)
 ·rw [q30 _ _ _ _ (by rw [hb, List.length_cons]; omega), hb] at hl
  rw [q30 _ _ _ _ (by show j ≤ (t.map Ent.down).length; rw [List.length_map]; omega)]
  have had : 0 ≤ b.addr := by
   rw [(hR.ld k2 hdn).2.2.2]
   exact (maskW_bd W _ hW).1
  have := loadGo_pop il e t m.st.mem st'.mem b.addr ⟨had, hlt⟩ hml hm1 hm2 b.val b.frm j (by omega) hl
  rw [show (b.down).frm = if 0 ≤ b.frm then b.frm - 1 else b.frm by unfold Ent.down; split <;> rfl]
  exact this
 ·show realOf il st'.stack ((t.map Ent.down).take j) = _
  rw [hb, List.take_succ_cons, hs]
  exact realOf_pc il _ _ _ (by rw [← List.map_take, List.map_map]; congr 1; funext a; show a.down.pc = a.pc; unfold Ent.down; split <;> rfl)
theorem sett_ret {W win : Int} {il : List Inst} {L k : Nat} {m : Conf} (hP : ProgOk W win il) (hI : Inv win il L k m) (h : Sett W il m) (hcan : canRetOf il m = true) : Sett W il (retireOf il m) := by
 obtain ⟨e, t, hb, hf, hd, hkn⟩ := q2E hcan
 have hin : e ∈ m.buf := by rw [hb]; exact List.mem_cons_self ..
 have hR := h 0 e (by rw [hb]; rfl)
 have he := hI.ents e hin
 have hnil : ∀ (s : State) (f : Int), Sett W il { st := s, buf := [], rsb := [], fin := f } := fun s f j a ha => by cases j <;> cases ha
 unfold retireOf
 rw [hb]
 simp only
 have hres := he.st
 have hdb : (instAt il e.pc).kind ≠ 12 → InsOk (instAt il e.pc) il.length := fun h12 => hP.ok _ (q2D h12).2.2
 have hpop := fun st' rsb => sett_pop (rsb := rsb) (fin := m.fin) hP.W h hb st'
 generalize hx : instAt il e.pc = x at *
 have hdest : destOf x = if x.kind = 1 ∨ x.kind = 2 ∨ x.kind = 4 then (x.d, true) else (0, false) := rfl
 have hreal : ∀ (s : List Int) (l : List Ent), realOf il s (e :: l) = if x.kind = 8 then (if 4 ≤ s.length then none else realOf il (s ++ [e.pc + 1]) l) else if x.kind = 9 then (if s.length = 0 then none else realOf il (s.take (s.length - 1)) l) else realOf il s l := fun s l => by rw [realOf, hx]
 by_cases c1 : e.fault = true ∨ x.kind = 12
 ·rw [if_pos c1]; exact hnil _ _
 rw [if_neg c1]
 by_cases c2 : x.kind = 11
 ·rw [if_pos c2]; exact hnil _ _
 rw [if_neg c2, show popEnts (e :: t) = t.map Ent.down from rfl]
 have hok := hdb (fun h12 => c1 (.inr h12))
 have hnf : e.fault = false := by
  cases hq : e.fault with
  | false => rfl
  | true => exact absurd (.inl hq) c1
 by_cases c3 : x.kind = 1 ∨ x.kind = 2 ∨ x.kind = 4
 ·rw [if_pos c3]
  rw [if_pos c3] at hdest
  have hk := q37 m.st x.d e.val
  refine hpop (setReg m.st x.d e.val) m.rsb (fun r hr hd2 => ?_) (fun r hr hd2 => ?_) (fun k3 => by omega) (fun _ => hk.1) (by rw [hk.1]) (fun l => ?_)
  ·rw [hdest] at hd2
   have hd2 : x.d = r := hd2.2
   rw [regsAt_setReg _ _ _ _ hok.d hr, if_pos hd2]
   exact ⟨by rcases hd with g | g; exact g; omega, rfl⟩
  ·rw [hdest] at hd2
   have hd2 : ¬ x.d = r := fun q => hd2 ⟨rfl, q⟩
   rw [regsAt_setReg _ _ _ _ hok.d hr, if_neg hd2]
  ·rw [hreal, if_neg (by omega), if_neg (by omega), hk.2.1]
 rw [if_neg c3] at hdest ⊢
 have hno : ∀ r : Int, ¬ ((destOf x).2 = true ∧ (destOf x).1 = r) := fun r q => by rw [hdest] at q; cases q.1
 by_cases c4 : x.kind = 3
 ·rw [if_pos c4]
  have hkw := hkn c4
  obtain ⟨-, -, -, h4⟩ := hR.sk c4 hkw
  rw [hnf] at h4
  have h4 := of_decide_eq_false h4.symm
  have h0 := (hres c4 hkw hnf).1
  exact hpop { m.st with mem := m.st.mem.set e.addr.toNat e.val } m.rsb (fun r _ q => absurd q (hno r)) (fun _ _ _ => rfl) (fun _ => ⟨hkw, by rcases hd with g | g; exact g; omega, h0, by omega, rfl⟩) (fun q => absurd c4 q) (by simp) (fun l => by rw [hreal, if_neg (by omega), if_neg (by omega)])
 rw [if_neg c4]
 by_cases c5 : x.kind = 8
 ·rw [if_pos c5]
  have h4 := (hR.ca c5).2
  rw [hnf, List.take_zero, realOf] at h4
  have h4 := of_decide_eq_false h4.symm
  exact hpop { m.st with stack := m.st.stack ++ [e.pc + 1] } m.rsb (fun r _ q => absurd q (hno r)) (fun _ _ _ => rfl) (fun q => absurd q c4) (fun _ => rfl) rfl (fun l => by rw [hreal, if_pos c5, if_neg h4])
 rw [if_neg c5]
 by_cases c6 : x.kind = 9
 ·rw [if_pos c6]
  have h4 := hR.re c6 (by rcases hd with g | g; exact g; omega)
  rw [List.take_zero, realOf] at h4
  have hne : m.st.stack.length ≠ 0 := fun q => by
   rw [List.length_eq_zero_iff] at q
   rw [q] at h4
   simp only [List.getLast?_nil] at h4
   rw [hnf] at h4
   cases h4
  exact hpop { m.st with stack := m.st.stack.dropLast } m.rsb (fun r _ q => absurd q (hno r)) (fun _ _ _ => rfl) (fun q => absurd q c4) (fun _ => rfl) rfl (fun l => by rw [hreal, if_neg c5, if_pos c6, if_neg hne, List.dropLast_eq_take])
 rw [if_neg c6]
 exact hpop m.st m.rsb (fun r _ q => absurd q (hno r)) (fun _ _ _ => rfl) (fun q => absurd q c4) (fun _ => rfl) rfl (fun l => by rw [hreal, if_neg c5, if_neg c6])
theorem sett_step {W win : Int} {il : List Inst} {L k : Nat} {m : Conf} (hP : ProgOk W win il) (hI : Inv win il L k m) (h : Sett W il m) (d : Dir) (hd : d ∈ allOf W win il m) : Sett W il (stepOf W il m d) := by
 unfold allOf at hd
 rw [List.mem_append, List.mem_append, List.mem_append, q20, q20, q20] at hd
 unfold stepOf
 rcases hd with ((⟨i, hi, _, rfl⟩ | ⟨i, hi, hc, rfl⟩) | ⟨i, hi, hc, rfl⟩) | hc
 ·simp only [if_true]
  exact sett_fetch h i
 ·simp only [show ¬ ((2 : Int) = 1) by omega, if_false, if_true, Int.toNat_natCast]
  exact sett_do hP hI h i hi hc
 ·simp only [show ¬ ((3 : Int) = 1) by omega, show ¬ ((3 : Int) = 2) by omega, if_false, if_true, Int.toNat_natCast]
  exact sett_addr h i hi hc
 ·split at hc
  ·rename_i hr
   rw [List.mem_singleton] at hc
   subst hc
   simp only [show ¬ ((4 : Int) = 1) by omega, show ¬ ((4 : Int) = 2) by omega, show ¬ ((4 : Int) = 3) by omega, if_false]
   exact sett_ret hP hI h hr
  ·cases hc
def valS (W : Int) (s : State) (vr : Bool) (vn : Int) : Int := if vr then regsAt s.r0 s.r1 s.r2 s.r3 vn else maskW W vn
def seqOf (W : Int) (il : List Inst) (s : State) : State × Int :=
 let x := instAt il s.pc
 let a := valS W s x.ar x.an
 let b := valS W s x.br x.bn
 let ad := maskW W (a + b)
 let t := { s with pc := s.pc + 1 }
 if x.kind = 1 then (setReg t x.d (doW W x.op a b), 0)
 else if x.kind = 4 then ((if a ≠ 0 then setReg t x.d b else t), 0)
 else if x.kind = 2 then (if (s.mem.length : Int) ≤ ad then (s, 2) else (setReg t x.d (s.mem[ad.toNat]?.getD 0), 0))
 else if x.kind = 3 then (if (s.mem.length : Int) ≤ ad then (s, 2) else ({ t with mem := s.mem.set ad.toNat (regsAt s.r0 s.r1 s.r2 s.r3 x.d) }, 0))
 else if x.kind = 5 then ((if doW W x.op a b ≠ 0 then { s with pc := x.target } else t), 0)
 else if x.kind = 6 then ({ s with pc := x.target }, 0)
 else if x.kind = 7 then ({ s with pc := min a il.length }, 0)
 else if x.kind = 8 then (if 4 ≤ s.stack.length then (s, 2) else ({ s with stack := s.stack ++ [s.pc + 1], pc := x.target }, 0))
 else if x.kind = 9 then (match s.stack.getLast? with | none => (s, 2) | some t' => ({ s with stack := s.stack.dropLast, pc := t' }, 0))
 else if x.kind = 10 then (t, 0)
 else if x.kind = 11 then (s, 1)
 else (s, 2)
def hdPc (buf : List Ent) (pc : Int) : Int := ((buf[0]?).map Ent.pc).getD pc
def seqSt (m : Conf) : State := { m.st with pc := hdPc m.buf m.st.pc }
theorem setReg_pc (s : State) (d v p : Int) : setReg { s with pc := p } d v = { setReg s d v with pc := p } := by
 unfold setReg
 repeat' split
 all_goals rfl
theorem regsAt_same {s : State} {d : Int} (hd : 0 ≤ d ∧ d ≤ 3) : setReg s d (regsAt s.r0 s.r1 s.r2 s.r3 d) = s := by
 have h1 : d = 0 ∨ d = 1 ∨ d = 2 ∨ d = 3 := by omega
 rcases h1 with rfl | rfl | rfl | rfl <;> rfl
theorem regOf_zero (il : List Inst) (a b c d : Int) (l : List Ent) (r : Int) (hr : 0 ≤ r ∧ r ≤ 3) : regOf il a b c d l ((0 : Nat) : Int) r = (regsAt a b c d r, true) := by
 rw [regOf_nat _ _ _ _ _ _ _ (Nat.zero_le _), if_neg (by omega), regGo]
theorem valOf_zero (W : Int) (il : List Inst) (s : State) (l : List Ent) (vr : Bool) (vn : Int) (hr : 0 ≤ vn ∧ vn ≤ 3) : valOf W il s.r0 s.r1 s.r2 s.r3 l ((0 : Nat) : Int) vr vn = (valS W s vr vn, true) := by
 unfold valOf valS
 split
 ·rw [regOf_zero _ _ _ _ _ _ _ hr]
 ·rfl
theorem seq_ret {W win : Int} {il : List Inst} {L k : Nat} {m : Conf} (hP : ProgOk W win il) (hI : Inv win il L k m) (hch : Chain il m) (h : Sett W il m) (hcan : canRetOf il m = true) : seqOf W il (seqSt m) = (seqSt (retireOf il m), (retireOf il m).fin) := by
 obtain ⟨e, t, hb, hf, hd, hkn⟩ := q2E hcan
 have hin : e ∈ m.buf := by rw [hb]; exact List.mem_cons_self ..
 have hR := h 0 e (by rw [hb]; rfl)
 have he := hI.ents e hin
 have hlk := hch.link 0 e (by rw [hb]; rfl)
 have hs0 : seqSt m = { m.st with pc := e.pc } := by unfold seqSt hdPc; rw [hb]; rfl
 have hpop : ∀ s : State, s.pc = m.st.pc → seqSt { st := s, buf := t.map Ent.down, rsb := m.rsb, fin := m.fin } = { s with pc := e.next } := fun s hs => by
  unfold seqSt
  have : hdPc (t.map Ent.down) s.pc = e.next := by
   rw [hlk, hb, hs]
   unfold hdPc ahead
   rw [List.getElem?_map, Option.map_map, List.getElem?_cons_succ]
   congr 2
   funext a
   show a.down.pc = a.pc
   unfold Ent.down
   split <;> rfl
  simp only [this]
 have hend : ∀ f : Int, seqSt { st := { m.st with pc := e.pc }, buf := [], rsb := [], fin := f } = { m.st with pc := e.pc } := fun f => rfl
 have hpop' : ∀ s : State, s.pc = m.st.pc → seqSt { m with st := s, buf := t.map Ent.down } = { s with pc := e.next } := hpop
 rw [hs0]
 unfold seqOf retireOf
 rw [hb]
 simp only
 have hres := he.st
 have hdb : (instAt il e.pc).kind ≠ 12 → InsOk (instAt il e.pc) il.length := fun h12 => hP.ok _ (q2D h12).2.2
 generalize hx : instAt il e.pc = x at *
 have hpe : popEnts (e :: t) = t.map Ent.down := rfl
 by_cases k12 : x.kind = 12
 ·rw [if_neg (by omega), if_neg (by omega), if_neg (by omega), if_neg (by omega), if_neg (by omega), if_neg (by omega), if_neg (by omega), if_neg (by omega), if_neg (by omega), if_neg (by omega), if_neg (by omega), if_pos (.inr k12), hend]
 have hok := hdb k12
 have hA : aOf W il m ((0 : Nat) : Int) x = (valS W m.st x.ar x.an, true) := valOf_zero W il m.st m.buf x.ar x.an hok.an
 have hB : bOf W il m ((0 : Nat) : Int) x = (valS W m.st x.br x.bn, true) := valOf_zero W il m.st m.buf x.br x.bn hok.bn
 have hD : dOf il m ((0 : Nat) : Int) x = (regsAt m.st.r0 m.st.r1 m.st.r2 m.st.r3 x.d, true) := regOf_zero il _ _ _ _ m.buf x.d hok.d
 have hvA : ∀ p : Int, valS W { m.st with pc := p } x.ar x.an = valS W m.st x.ar x.an := fun p => rfl
 have hvB : ∀ p : Int, valS W { m.st with pc := p } x.br x.bn = valS W m.st x.br x.bn := fun p => rfl
 rw [hvA, hvB]
 generalize valS W m.st x.ar x.an = a at *
 generalize valS W m.st x.br x.bn = b at *
 have hK := hok.k
 by_cases k1 : x.kind = 1
 ·rw [if_pos k1, if_neg (by rw [hR.nf (.inl k1)]; simp [k12]), if_neg (by omega), if_pos (.inl k1), hpe, hpop' _ (q37 _ _ _).2.2, setReg_pc, hR.nx (.inl k1)]
  have hdn : e.done = true := by rcases hd with g | g; exact g; omega
  have := (hR.alu k1 hdn).2.2
  rw [hA, hB] at this
  rw [this]
  simp only [hf]
 by_cases k4 : x.kind = 4
 ·have hdn : e.done = true := by rcases hd with g | g; exact g; omega
  have hv := (hR.cm k4 hdn).2.2.2
  rw [hA, hB, hD] at hv
  rw [if_neg k1, if_pos k4, if_neg (c := e.fault = true ∨ x.kind = 12) (by rw [hR.nf (by omega)]; simp [k12]), if_neg (c := x.kind = 11) (by omega), if_pos (c := x.kind = 1 ∨ x.kind = 2 ∨ x.kind = 4) (by omega), hpe, hpop' _ (q37 _ _ _).2.2, hR.nx (by omega), hv]
  simp only at hv ⊢
  by_cases ha : a = 0
  ·rw [if_neg (c := a ≠ 0) (fun q => q ha), if_pos ha, regsAt_same hok.d, hf]
  ·rw [if_pos (c := a ≠ 0) ha, if_neg ha, setReg_pc, hf]
 by_cases k2 : x.kind = 2
 ·have hdn : e.done = true := by rcases hd with g | g; exact g; omega
  have had := (hR.ld k2 hdn).2.2.2
  rw [hA, hB] at had
  simp only at had
  rw [if_neg k1, if_neg k4, if_pos k2, ← had]
  split
  ·rename_i hle
   rw [if_pos (.inl (hR.lf k2 hdn hle)), hend]
  ·rename_i hle
   have hle : ¬ (m.st.mem.length : Int) ≤ e.addr := hle
   obtain ⟨hnf, hlo⟩ := hR.ll k2 hdn (by omega)
   have had0 : 0 ≤ e.addr := by rw [had]; exact (maskW_bd W _ hP.W).1
   rw [q30 _ _ _ _ (Nat.zero_le _), loadGo, if_neg (by omega)] at hlo
   injection hlo with hv _
   rw [if_neg (by rw [hnf]; simp [k12]), if_neg (by omega), if_pos (by omega), hpe, hpop' _ (q37 _ _ _).2.2, setReg_pc, hR.nx (by omega), hf, ← hv]
 by_cases k3 : x.kind = 3
 ·have hdn : e.done = true := by rcases hd with g | g; exact g; omega
  obtain ⟨-, -, had, hfa⟩ := hR.sk k3 (hkn k3)
  have hv := (hR.sd k3 hdn).2
  rw [hA, hB] at had
  rw [hD] at hv
  simp only at had hv
  rw [if_neg k1, if_neg k4, if_neg k2, if_pos k3, ← had]
  split
  ·rename_i hle
   rw [if_pos (.inl (by rw [hfa]; exact decide_eq_true hle)), hend]
  ·rename_i hle
   rw [if_neg (by rw [hfa, decide_eq_false hle]; simp [k12]), if_neg (by omega), if_neg (by omega), hpe, hpop' { m.st with mem := m.st.mem.set e.addr.toNat e.val } rfl, hR.nx (by omega), hf, ← hv]
 by_cases k5 : x.kind = 5
 ·have hdn : e.done = true := by rcases hd with g | g; exact g; omega
  have hv := (hR.br k5 hdn).2.2
  rw [hA, hB] at hv
  rw [if_neg k1, if_neg k4, if_neg k2, if_neg k3, if_pos k5, if_neg (c := e.fault = true ∨ x.kind = 12) (by rw [hR.nf (by omega)]; simp [k12]), if_neg (c := x.kind = 11) (by omega), if_neg (c := x.kind = 1 ∨ x.kind = 2 ∨ x.kind = 4) (by omega), if_neg k3, if_neg (c := x.kind = 8) (by omega), if_neg (c := x.kind = 9) (by omega), hpe, hpop' m.st rfl, hv, hf]
  simp only
  by_cases h0 : doW W x.op a b = 0
  ·rw [if_neg (c := doW W x.op a b ≠ 0) (fun q => q h0), if_pos h0]
  ·rw [if_pos (c := doW W x.op a b ≠ 0) h0, if_neg h0]
 by_cases k6 : x.kind = 6
 ·rw [if_neg k1, if_neg k4, if_neg k2, if_neg k3, if_neg k5, if_pos k6, if_neg (by rw [hR.nf (by omega)]; simp [k12]), if_neg (by omega), if_neg (by omega), if_neg k3, if_neg (by omega), if_neg (by omega), hpe, hpop' m.st rfl, hR.jm k6, hf]
 by_cases k7 : x.kind = 7
 ·have hdn : e.done = true := by rcases hd with g | g; exact g; omega
  have hv := (hR.ij k7 hdn).2
  rw [hA] at hv
  rw [if_neg k1, if_neg k4, if_neg k2, if_neg k3, if_neg k5, if_neg k6, if_pos k7, if_neg (by rw [hR.nf (by omega)]; simp [k12]), if_neg (by omega), if_neg (by omega), if_neg k3, if_neg (by omega), if_neg (by omega), hpe, hpop' m.st rfl, hv, hf]
 by_cases k8 : x.kind = 8
 ·obtain ⟨h1, h2⟩ := hR.ca k8
  rw [List.take_zero, realOf] at h2
  simp only at h2
  rw [if_neg k1, if_neg k4, if_neg k2, if_neg k3, if_neg k5, if_neg k6, if_neg k7, if_pos k8]
  split
  ·rename_i h4
   rw [if_pos (.inl (by rw [h2]; exact decide_eq_true h4)), hend]
  ·rename_i h4
   rw [if_neg (by rw [h2, decide_eq_false h4]; simp [k12]), if_neg (by omega), if_neg (by omega), hpe, hpop' { m.st with stack := m.st.stack ++ [e.pc + 1] } rfl, h1, hf]
 by_cases k9 : x.kind = 9
 ·have hdn : e.done = true := by rcases hd with g | g; exact g; omega
  have h2 := hR.re k9 hdn
  rw [List.take_zero, realOf] at h2
  simp only at h2
  rw [if_neg k1, if_neg k4, if_neg k2, if_neg k3, if_neg k5, if_neg k6, if_neg k7, if_neg k8, if_pos k9]
  cases hg : m.st.stack.getLast? with
  | none =>
   rw [hg] at h2
   simp only at h2
   simp only
   rw [if_pos (.inl h2), hend]
  | some t' =>
   rw [hg] at h2
   simp only at h2
   simp only
   rw [if_neg (by rw [h2.1]; simp [k12]), if_neg (by omega), if_neg (by omega), if_neg k3, if_neg k8, if_pos k9, hpe, hpop' { m.st with stack := m.st.stack.dropLast } rfl, h2.2, hf]
 by_cases k10 : x.kind = 10
 ·rw [if_neg k1, if_neg k4, if_neg k2, if_neg k3, if_neg k5, if_neg k6, if_neg k7, if_neg k8, if_neg k9, if_pos k10, if_neg (by rw [hR.nf (by omega)]; simp [k12]), if_neg (by omega), if_neg (by omega), if_neg k3, if_neg k8, if_neg k9, hpe, hpop' m.st rfl, hR.nx (by omega), hf]
 have k11 : x.kind = 11 := by omega
 rw [if_neg k1, if_neg k4, if_neg k2, if_neg k3, if_neg k5, if_neg k6, if_neg k7, if_neg k8, if_neg k9, if_neg k10, if_pos k11, if_neg (by rw [hR.nf (by omega)]; simp [k12]), if_pos k11, hend]
theorem hd_goes (l : List Ent) (i : Nat) (t pc : Int) (hi : i < l.length) : hdPc (goesBuf l i t) (goesPc l i t pc) = hdPc l pc := by
 unfold goesBuf goesPc
 rw [List.getElem?_eq_getElem hi]
 simp only
 split
 ·rfl
 ·unfold hdPc
  rw [List.getElem?_take, if_pos (by omega), List.getElem?_set]
  split
  ·rename_i h0
   subst h0
   rw [List.getElem?_eq_getElem hi]
   rfl
  ·rw [List.getElem?_eq_getElem (by omega)]
   rfl
theorem hd_set (l : List Ent) (i : Nat) (e e1 : Ent) (pc : Int) (h0 : l[i]? = some e) (hp : e1.pc = e.pc) : hdPc (l.set i e1) pc = hdPc l pc := by
 unfold hdPc
 rw [List.getElem?_set]
 split
 ·rename_i hi
  subst hi
  rw [if_pos (List.getElem?_eq_some_iff.1 h0).1, h0]
  simp [hp]
 ·rfl
theorem seq_other {W win : Int} {il : List Inst} {m : Conf} (d : Dir) (hd : d ∈ allOf W win il m) (h4 : d.kind ≠ 4) : seqSt (stepOf W il m d) = seqSt m := by
 unfold allOf at hd
 rw [List.mem_append, List.mem_append, List.mem_append, q20, q20, q20] at hd
 unfold stepOf
 rcases hd with ((⟨i, hi, _, rfl⟩ | ⟨i, hi, hc, rfl⟩) | ⟨i, hi, hc, rfl⟩) | hc
 ·simp only [if_true]
  unfold fetchOf seqSt
  have hpc : (fetchEnt il m i).1.pc = m.st.pc := by
   unfold fetchEnt
   simp only
   repeat' split
   all_goals rfl
  have : hdPc (m.buf ++ [(fetchEnt il m i).1]) (fetchEnt il m i).1.next = hdPc m.buf m.st.pc := by
   unfold hdPc
   cases hb : m.buf with
   | nil => simp [hpc]
   | cons e t => rfl
  simp only [this]
 ·simp only [show ¬ ((2 : Int) = 1) by omega, if_false, if_true, Int.toNat_natCast]
  have h0 : m.buf[i]? = some m.buf[i] := List.getElem?_eq_getElem hi
  unfold doConf seqSt
  rw [h0]
  simp only [Option.getD_some]
  generalize m.buf[i] = e at *
  have : hdPc (doOut W il m i { e with done := true } (instAt il e.pc)).1 (doOut W il m i { e with done := true } (instAt il e.pc)).2 = hdPc m.buf m.st.pc := by
   generalize hx : instAt il e.pc = x
   unfold doOut
   simp only
   have one : ∀ e1 : Ent, e1.pc = e.pc → hdPc (m.buf.set i e1) m.st.pc = hdPc m.buf m.st.pc := fun e1 hp => hd_set _ _ e e1 _ h0 hp
   have two : ∀ t : Int, hdPc (goesBuf (m.buf.set i { e with done := true }) i t) (goesPc (m.buf.set i { e with done := true }) i t m.st.pc) = hdPc m.buf m.st.pc := fun t => by
    rw [hd_goes _ _ _ _ (by rw [List.length_set]; exact hi)]
    exact one _ rfl
   repeat' split
   all_goals first | exact one _ rfl | exact two _
  simp only [this]
 ·simp only [show ¬ ((3 : Int) = 1) by omega, show ¬ ((3 : Int) = 2) by omega, if_false, if_true, Int.toNat_natCast]
  have h0 : m.buf[i]? = some m.buf[i] := List.getElem?_eq_getElem hi
  unfold addrConf seqSt
  rw [h0]
  simp only [Option.getD_some]
  generalize m.buf[i] = e at *
  have : hdPc (addrOut W il m i e (instAt il e.pc)).1 (addrOut W il m i e (instAt il e.pc)).2 = hdPc m.buf m.st.pc := by
   unfold addrOut
   simp only
   generalize maskW W ((aOf W il m i (instAt il e.pc)).1 + (bOf W il m i (instAt il e.pc)).1) = ad
   split
   ·exact hd_set _ _ e _ _ h0 rfl
   ·cases hz : hazOf il (m.buf.set i { e with addr := ad, known := true }) i ad with
    | none => exact hd_set _ _ e _ _ h0 rfl
    | some j =>
     obtain ⟨h2, h3⟩ := hazOf_lt (by rw [List.length_set]; exact hi) hz
     simp only
     rw [← hd_set m.buf i e { e with addr := ad, known := true } m.st.pc h0 rfl]
     unfold hdPc
     rw [List.getElem?_take, if_pos (by omega), List.getElem?_eq_getElem (show 0 < (m.buf.set i { e with addr := ad, known := true }).length by omega)]
     rfl
  simp only [this]
 ·split at hc
  ·rw [List.mem_singleton] at hc
   subst hc
   exact absurd rfl h4
  ·cases hc
end
end Go.Proofs.Ytchldbkjapnlcaa
