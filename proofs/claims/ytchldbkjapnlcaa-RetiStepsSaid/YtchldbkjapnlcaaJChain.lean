/- A machine that a walk came to: what is under way hangs together, each goes on where the next one stands; a machine that has not ended may always go on. Plain law, no program in sight. -/
import Derived.Test.YtchldbkjapnlcaaJj
set_option linter.unusedVariables false
set_option linter.unusedSimpArgs false
namespace Go.Proofs.Ytchldbkjapnlcaa
open Go.RowKit
section
def ahead (buf : List Ent) (pc : Int) (j : Nat) : Int := ((buf[j + 1]?).map Ent.pc).getD pc
def Lnk (buf : List Ent) (pc : Int) : Prop := ∀ (j : Nat) (e : Ent), buf[j]? = some e → e.next = ahead buf pc j
theorem Lnk.nil (pc : Int) : Lnk [] pc := fun j e h => by cases j <;> cases h
theorem Lnk.add {buf : List Ent} {pc : Int} (h : Lnk buf pc) (e : Ent) (he : e.pc = pc) : Lnk (buf ++ [e]) e.next := fun j f hj => by
 unfold ahead
 rw [List.getElem?_append] at hj
 split at hj
 ·rename_i hlt
  rw [h j f hj]
  unfold ahead
  by_cases h1 : j + 1 < buf.length
  ·rw [List.getElem?_append_left h1, List.getElem?_eq_getElem h1]; rfl
  ·have h2 : j + 1 = buf.length := by omega
   rw [List.getElem?_append_right (by omega), List.getElem?_eq_none (by omega), h2, Nat.sub_self]
   exact he.symm
 ·rename_i hge
  have : f = e := by
   have := List.mem_of_getElem? hj
   rwa [List.mem_singleton] at this
  subst this
  have h0 : j - buf.length = 0 := by
   have := (List.getElem?_eq_some_iff.1 hj).1
   simp at this
   omega
  rw [List.getElem?_eq_none (by rw [List.length_append, List.length_singleton]; omega)]
  rfl
theorem Lnk.cut {buf : List Ent} {pc : Int} (h : Lnk buf pc) {t : Nat} {f : Ent} (hf : buf[t]? = some f) : Lnk (buf.take t) f.pc := fun j e hj => by
 rw [List.getElem?_take] at hj
 split at hj
 ·rename_i hlt
  rw [h j e hj]
  unfold ahead
  rw [List.getElem?_take]
  split
  ·rename_i h1
   have htl := (List.getElem?_eq_some_iff.1 hf).1
   rw [List.getElem?_eq_getElem (by omega)]; rfl
  ·have : j + 1 = t := by omega
   rw [this, hf]; rfl
 ·cases hj
theorem Lnk.same {buf : List Ent} {pc : Int} (h : Lnk buf pc) {i : Nat} {e0 e1 : Ent} (h0 : buf[i]? = some e0) (hp : e1.pc = e0.pc) (hn : e1.next = e0.next) : Lnk (buf.set i e1) pc := fun j e hj => by
 have hah : ahead (buf.set i e1) pc j = ahead buf pc j := by
  unfold ahead
  rw [List.getElem?_set]
  split
  ·rename_i hij
   subst hij
   rw [if_pos (List.getElem?_eq_some_iff.1 h0).1, h0]
   simp [hp]
  ·rfl
 rw [hah]
 rw [List.getElem?_set] at hj
 split at hj
 ·rename_i hij
  subst hij
  split at hj
  ·injection hj with hj
   subst hj
   rw [hn]
   exact h i e0 h0
  ·cases hj
 ·exact h j e hj
theorem Lnk.turn {buf : List Ent} {pc : Int} (h : Lnk buf pc) {i : Nat} {e0 e1 : Ent} (h0 : buf[i]? = some e0) (hp : e1.pc = e0.pc) : Lnk ((buf.set i e1).take (i + 1)) e1.next := fun j e hj => by
 have hil := (List.getElem?_eq_some_iff.1 h0).1
 rw [List.getElem?_take] at hj
 split at hj
 ·rename_i hlt
  rw [List.getElem?_set] at hj
  split at hj
  ·rename_i hij
   subst hij
   injection hj with hj
   subst hj
   unfold ahead
   rw [List.getElem?_take, if_neg (by omega)]
   rfl
  ·rename_i hij
   rw [h j e hj]
   unfold ahead
   rw [List.getElem?_take, if_pos (by omega), List.getElem?_set]
   split
   ·rename_i h2
    rw [← h2, h0]
    simp [hp]
   ·rw [List.getElem?_eq_getElem (by omega)]
    rfl
 ·cases hj
theorem Lnk.pop {e : Ent} {t : List Ent} {pc : Int} (h : Lnk (e :: t) pc) : Lnk (t.map Ent.down) pc := fun j f hj => by
 rw [List.getElem?_map, Option.map_eq_some_iff] at hj
 obtain ⟨b, hb, rfl⟩ := hj
 have hn : b.down.next = b.next := by unfold Ent.down; split <;> rfl
 rw [hn, h (j + 1) b hb]
 unfold ahead
 rw [List.getElem?_cons_succ, List.getElem?_map, Option.map_map]
 congr 2
 funext a
 show a.pc = a.down.pc
 unfold Ent.down
 split <;> rfl
theorem Lnk.head {e : Ent} {pc : Int} (h : Lnk [e] pc) : e.next = pc := h 0 e rfl
structure Chain (il : List Inst) (m : Conf) : Prop where
 done : ∀ e ∈ m.buf, ((instAt il e.pc).kind = 6 ∨ (instAt il e.pc).kind = 8 ∨ (instAt il e.pc).kind = 11 ∨ (instAt il e.pc).kind = 12) → e.done = true
 nx : ∀ e ∈ m.buf, e.next = -1 → (instAt il e.pc).kind = 11 ∨ (instAt il e.pc).kind = 12
 link : Lnk m.buf m.st.pc
 live : m.fin = 0 → m.buf = [] → m.st.pc ≠ -1
theorem Chain.begin (il : List Inst) (s : State) (h : s.pc ≠ -1) : Chain il ⟨s, [], [], 0⟩ := ⟨fun _ he => (by cases he), fun _ he => (by cases he), Lnk.nil _, fun _ _ => h⟩
def RowCh (il : List Inst) (b : List Ent) : Prop := ∀ e ∈ b, (((instAt il e.pc).kind = 6 ∨ (instAt il e.pc).kind = 8 ∨ (instAt il e.pc).kind = 11 ∨ (instAt il e.pc).kind = 12) → e.done = true) ∧ (e.next = -1 → (instAt il e.pc).kind = 11 ∨ (instAt il e.pc).kind = 12)
theorem Chain.row {il : List Inst} {m : Conf} (h : Chain il m) : RowCh il m.buf := fun e he => ⟨h.done e he, h.nx e he⟩
theorem RowCh.take {il : List Inst} {b : List Ent} (h : RowCh il b) (t : Nat) : RowCh il (b.take t) := fun e he => h e (List.mem_of_mem_take he)
theorem RowCh.set {il : List Inst} {b : List Ent} (h : RowCh il b) (i : Nat) (e1 : Ent) (h1 : (((instAt il e1.pc).kind = 6 ∨ (instAt il e1.pc).kind = 8 ∨ (instAt il e1.pc).kind = 11 ∨ (instAt il e1.pc).kind = 12) → e1.done = true) ∧ (e1.next = -1 → (instAt il e1.pc).kind = 11 ∨ (instAt il e1.pc).kind = 12)) : RowCh il (b.set i e1) := fun e he => by
 rcases List.mem_or_eq_of_mem_set he with he | rfl
 ·exact h e he
 ·exact h1
theorem RowCh.chain {il : List Inst} {m : Conf} (h : RowCh il m.buf) (hl : Lnk m.buf m.st.pc) (hv : m.fin = 0 → m.buf = [] → m.st.pc ≠ -1) : Chain il m := ⟨fun e he => (h e he).1, fun e he => (h e he).2, hl, hv⟩
theorem ne_of_get {b : List Ent} {i : Nat} {e : Ent} (h : b[i]? = some e) : b ≠ [] := by rintro rfl; cases i <;> cases h
theorem chain_goes {il : List Inst} {m : Conf} (h : Chain il m) (i : Nat) (e e1 : Ent) (h0 : m.buf[i]? = some e) (hp : e1.pc = e.pc) (hn : e1.next = e.next) (hd : e1.done = true) (t : Int) (ht : 0 ≤ t) :
  Chain il { m with st := { m.st with pc := goesPc (m.buf.set i e1) i t m.st.pc }, buf := goesBuf (m.buf.set i e1) i t } := by
 have hi := (List.getElem?_eq_some_iff.1 h0).1
 have hm : e ∈ m.buf := List.mem_of_getElem? h0
 have hg : (m.buf.set i e1)[i]? = some e1 := by rw [List.getElem?_set, if_pos rfl, if_pos hi]
 unfold goesBuf goesPc
 rw [hg]
 simp only
 split
 ·refine RowCh.chain (h.row.set i e1 ⟨fun _ => hd, fun hq => ?_⟩) (h.link.same h0 hp hn) (fun _ hb => absurd hb (ne_of_get hg))
  rw [hp]
  exact h.nx e hm (by rw [← hn]; exact hq)
 ·rw [List.set_set]
  refine RowCh.chain ((h.row.set i { e1 with next := t } ⟨fun _ => hd, fun hq => ?_⟩).take _) (h.link.turn h0 hp) (fun _ hb => ?_)
  ·have hq : t = -1 := hq
   omega
  ·show t ≠ -1
   omega
theorem chain_one {il : List Inst} {m : Conf} (h : Chain il m) (i : Nat) (e e1 : Ent) (h0 : m.buf[i]? = some e) (hp : e1.pc = e.pc) (hn : e1.next = e.next) (hd : e1.done = true ∨ e1.done = e.done) :
  Chain il { m with st := { m.st with pc := m.st.pc }, buf := m.buf.set i e1 } := by
 have hi := (List.getElem?_eq_some_iff.1 h0).1
 have hm : e ∈ m.buf := List.mem_of_getElem? h0
 have hg : (m.buf.set i e1)[i]? = some e1 := by rw [List.getElem?_set, if_pos rfl, if_pos hi]
 refine RowCh.chain (h.row.set i e1 ⟨fun hk => ?_, fun hq => ?_⟩) (h.link.same h0 hp hn) (fun _ hb => absurd hb (ne_of_get hg))
 ·rcases hd with hd | hd
  ·exact hd
  ·rw [hd]
   exact h.done e hm (by rw [← hp]; exact hk)
 ·rw [hp]
  exact h.nx e hm (by rw [← hn]; exact hq)
theorem chain_do {W win : Int} {il : List Inst} {L k : Nat} {m : Conf} (hP : ProgOk W win il) (h : Inv win il L k m) (hch : Chain il m) (i : Nat) (hi : i < m.buf.length) (hcan : canOf W il m i = true) : Chain il (doConf W il m i) := by
 obtain ⟨hf, hd, hc⟩ := canOf_parts hi hcan
 have h0 : m.buf[i]? = some m.buf[i] := List.getElem?_eq_getElem hi
 unfold doConf
 rw [h0]
 simp only [Option.getD_some]
 have hb := h.ents m.buf[i] (List.getElem_mem hi)
 generalize m.buf[i] = e at *
 have hpcx : (instAt il e.pc).kind ≠ 12 := by
  intro h12
  unfold canIn at hc
  simp only [h12] at hc
  simp at hc
 obtain ⟨hp0, hp1, hin⟩ := q2D hpcx
 have hio := hP.ok _ hin
 generalize hx : instAt il e.pc = x at *
 have hvals : ∀ y ∈ m.buf.set i { e with done := true }, N4 y.val := fun y hy => by
  rcases List.mem_or_eq_of_mem_set hy with hy | hy
  ·exact (h.ents y hy).val
  ·rw [hy]; exact hb.val
 have ha : N4 (aOf W il { m with buf := m.buf.set i { e with done := true } } i x).1 := valOf_n4 W hP.W il _ _ _ _ _ _ _ _ h.r0 h.r1 h.r2 h.r3 hvals
 have one : ∀ e1 : Ent, e1.pc = e.pc → e1.next = e.next → e1.done = true → Chain il { m with st := { m.st with pc := m.st.pc }, buf := m.buf.set i e1 } := fun e1 g1 g2 g3 => chain_one hch i e e1 h0 g1 g2 (.inl g3)
 have two : ∀ t : Int, 0 ≤ t → Chain il { m with st := { m.st with pc := goesPc (m.buf.set i { e with done := true }) i t m.st.pc }, buf := goesBuf (m.buf.set i { e with done := true }) i t } := fun t ht => chain_goes hch i e { e with done := true } h0 rfl rfl rfl t ht
 unfold doOut
 simp only
 by_cases k1 : x.kind = 1
 ·rw [if_pos k1]; exact one _ rfl rfl rfl
 rw [if_neg k1]
 by_cases k4 : x.kind = 4
 ·rw [if_pos k4]; exact one _ rfl rfl rfl
 rw [if_neg k4]
 by_cases k3 : x.kind = 3
 ·rw [if_pos k3]; exact one _ rfl rfl rfl
 rw [if_neg k3]
 by_cases k2 : x.kind = 2
 ·rw [if_pos k2]
  split
  ·exact one _ rfl rfl rfl
  ·exact one _ rfl rfl rfl
 rw [if_neg k2]
 by_cases k5 : x.kind = 5
 ·rw [if_pos k5]
  refine two _ ?_
  split
  ·show 0 ≤ e.pc + 1; omega
  ·have := hio.t; omega
 rw [if_neg k5]
 by_cases k7 : x.kind = 7
 ·rw [if_pos k7]
  refine two _ ?_
  have := ha.1
  omega
 rw [if_neg k7]
 have htk : (m.buf.set i { e with done := true }).take i = m.buf.take i := by rw [List.take_set_of_le (Nat.le_refl _)]
 rw [htk]
 have hfl : Chain il { m with st := { m.st with pc := m.st.pc }, buf := m.buf.set i { e with done := true, fault := true } } := one _ rfl rfl rfl
 cases hr : realOf il m.st.stack (m.buf.take i) with
 | none => exact hfl
 | some s =>
  simp only
  cases hg : s.getLast? with
  | none => exact hfl
  | some t =>
   simp only
   have hts : t ∈ s := List.mem_of_getLast? hg
   have := realOf_mem hP _ _ _ h.stk hr t hts
   exact two t (by omega)
theorem canAddr_parts {W : Int} {il : List Inst} {m : Conf} {i : Nat} (hi : i < m.buf.length) (hcan : canAddrOf W il m i = true) : m.fin = 0 ∧ m.buf[i].known = false ∧ canAddrIn W il m i (instAt il m.buf[i].pc) = true := by
 have h0 : m.buf[i]? = some m.buf[i] := List.getElem?_eq_getElem hi
 unfold canAddrOf at hcan
 split at hcan
 ·rename_i ho
  unfold openOf at ho
  rw [Int.toNat_natCast, h0] at hcan
  simp only at hcan
  split at hcan
  ·cases hcan
  ·rename_i hd
   simp only [Bool.and_eq_true, decide_eq_true_eq] at ho
   exact ⟨ho.1.1, by simpa using hd, hcan⟩
 ·cases hcan
theorem hazOf_lt {il : List Inst} {i : Nat} {addr : Int} {l : List Ent} {j : Nat} (hi : i < l.length) (h : hazOf il l i addr = some j) : i < j ∧ j < l.length := by
 unfold hazOf at h
 have := haz_lt il i addr _ _ _ h
 rw [List.length_drop] at this
 omega
theorem chain_addr {W win : Int} {il : List Inst} {m : Conf} (hP : ProgOk W win il) (hch : Chain il m) (i : Nat) (hi : i < m.buf.length) (hcan : canAddrOf W il m i = true) : Chain il (addrConf W il m i) := by
 have h0 : m.buf[i]? = some m.buf[i] := List.getElem?_eq_getElem hi
 obtain ⟨hf, _, _⟩ := canAddr_parts hi hcan
 unfold addrConf
 rw [h0]
 simp only [Option.getD_some]
 generalize m.buf[i] = e at *
 unfold addrOut
 simp only
 generalize maskW W ((aOf W il m i (instAt il e.pc)).1 + (bOf W il m i (instAt il e.pc)).1) = ad
 split
 ·exact chain_one hch i e _ h0 rfl rfl (.inr rfl)
 ·have h1 := chain_one hch i e { e with addr := ad, known := true } h0 rfl rfl (.inr rfl)
  cases hz : hazOf il (m.buf.set i { e with addr := ad, known := true }) i ad with
  | none => exact h1
  | some j =>
   obtain ⟨h2, h3⟩ := hazOf_lt (by rw [List.length_set]; exact hi) hz
   have hj : (m.buf.set i { e with addr := ad, known := true })[j]? = some (m.buf.set i { e with addr := ad, known := true })[j] := List.getElem?_eq_getElem h3
   simp only
   rw [hj]
   refine RowCh.chain (h1.row.take j) (h1.link.cut hj) (fun _ hb => ?_)
   exfalso
   have := congrArg List.length hb
   rw [List.length_take, List.length_nil] at this
   omega
theorem chain_fetch {W win : Int} {il : List Inst} {L k : Nat} {m : Conf} (hP : ProgOk W win il) (h : Inv win il L k m) (hch : Chain il m) (g : Int) (hg0 : 0 ≤ g) (hg : g < guessesOf win il m) : Chain il (fetchOf il m g) := by
 obtain ⟨_, _, _, _, h5, _⟩ := fetchEnt_ok hP h g hg0 hg
 obtain ⟨hf, hpc1, hbl, hgl⟩ := guesses_pos hg0 hg
 have hpc := h.pc
 have hrow : ((((instAt il (fetchEnt il m g).1.pc).kind = 6 ∨ (instAt il (fetchEnt il m g).1.pc).kind = 8 ∨ (instAt il (fetchEnt il m g).1.pc).kind = 11 ∨ (instAt il (fetchEnt il m g).1.pc).kind = 12) → (fetchEnt il m g).1.done = true) ∧ ((fetchEnt il m g).1.next = -1 → (instAt il (fetchEnt il m g).1.pc).kind = 11 ∨ (instAt il (fetchEnt il m g).1.pc).kind = 12)) := by
  rw [h5]
  unfold fetchEnt
  simp only
  generalize hx : instAt il m.st.pc = x at *
  have hin : x.kind ≠ 12 → 0 ≤ x.target := fun hk => by
   have := q2D (il := il) (pc := m.st.pc) (by rw [hx]; exact hk)
   rw [hx] at this
   exact (hP.ok _ this.2.2).t.1
  by_cases k5 : x.kind = 5
  ·rw [if_pos k5]
   have := hin (by omega)
   split
   ·exact ⟨fun hk => by omega, fun hk => by have hk : x.target = -1 := hk; omega⟩
   ·exact ⟨fun hk => by omega, fun hk => by have hk : m.st.pc + 1 = -1 := hk; omega⟩
  rw [if_neg k5]
  by_cases k6 : x.kind = 6
  ·rw [if_pos k6]
   have := hin (by omega)
   exact ⟨fun _ => rfl, fun hk => by have hk : x.target = -1 := hk; omega⟩
  rw [if_neg k6]
  by_cases k7 : x.kind = 7
  ·rw [if_pos k7]
   exact ⟨fun hk => by omega, fun hk => by have hk : g = -1 := hk; omega⟩
  rw [if_neg k7]
  by_cases k9 : x.kind = 9
  ·rw [if_pos k9]
   cases hl : m.rsb.getLast? with
   | none => exact ⟨fun hk => by omega, fun hk => by have hk : g = -1 := hk; omega⟩
   | some t =>
    have := h.rsb t (List.mem_of_getLast? hl)
    exact ⟨fun hk => by omega, fun hk => by have hk : t = -1 := hk; omega⟩
  rw [if_neg k9]
  by_cases k8 : x.kind = 8
  ·rw [if_pos k8]
   have := hin (by omega)
   exact ⟨fun _ => rfl, fun hk => by have hk : x.target = -1 := hk; omega⟩
  rw [if_neg k8]
  by_cases k11 : x.kind = 11 ∨ x.kind = 12
  ·rw [if_pos k11]
   exact ⟨fun _ => rfl, fun _ => k11⟩
  ·rw [if_neg k11]
   exact ⟨fun hk => by omega, fun hk => by have hk : m.st.pc + 1 = -1 := hk; omega⟩
 unfold fetchOf
 refine RowCh.chain (fun e he => ?_) (hch.link.add _ h5) (fun _ hb => ?_)
 ·rcases List.mem_append.1 he with he | he
  ·exact hch.row e he
  ·rw [List.mem_singleton] at he
   subst he
   exact hrow
 ·have hb : m.buf ++ [(fetchEnt il m g).1] = [] := hb
  simp at hb
theorem down_same (a : Ent) : a.down.pc = a.pc ∧ a.down.next = a.next ∧ a.down.done = a.done := by unfold Ent.down; split <;> exact ⟨rfl, rfl, rfl⟩
theorem chain_ret {il : List Inst} {m : Conf} (hch : Chain il m) (hcan : canRetOf il m = true) : Chain il (retireOf il m) := by
 obtain ⟨e, t, hb, hf, hd, hkn⟩ := q2E hcan
 have hin : e ∈ m.buf := by rw [hb]; exact List.mem_cons_self ..
 have hlk := hch.link
 rw [hb] at hlk
 unfold retireOf
 rw [hb]
 simp only
 generalize hx : instAt il e.pc = x at *
 have hend : ∀ f : Int, f ≠ 0 → Chain il { st := { m.st with pc := e.pc }, buf := [], rsb := [], fin := f } := fun f hf' => ⟨fun _ he => (by cases he), fun _ he => (by cases he), Lnk.nil _, fun h0 _ => absurd h0 hf'⟩
 have hrow : RowCh il (t.map Ent.down) := fun a ha => by
  obtain ⟨b, hbm, rfl⟩ := List.mem_map.1 ha
  obtain ⟨d1, d2, d3⟩ := down_same b
  rw [d1, d2, d3]
  exact hch.row b (by rw [hb]; exact List.mem_cons_of_mem _ hbm)
 by_cases c1 : e.fault = true ∨ x.kind = 12
 ·rw [if_pos c1]; exact hend 2 (by decide)
 rw [if_neg c1]
 by_cases c2 : x.kind = 11
 ·rw [if_pos c2]; exact hend 1 (by decide)
 rw [if_neg c2, show popEnts (e :: t) = t.map Ent.down from rfl]
 have hgo : ∀ (s : State), s.pc = m.st.pc → Chain il { m with st := s, buf := t.map Ent.down } := fun s hs => by
  refine RowCh.chain hrow (by show Lnk (t.map Ent.down) s.pc; rw [hs]; exact hlk.pop) (fun _ hnil => ?_)
  have hnil : t.map Ent.down = [] := hnil
  rw [List.map_eq_nil_iff] at hnil
  subst hnil
  show s.pc ≠ -1
  rw [hs, ← hlk.head]
  intro hq
  rcases hch.nx e hin hq with g | g
  ·rw [hx] at g; exact c2 g
  ·rw [hx] at g; exact c1 (.inr g)
 by_cases c3 : x.kind = 1 ∨ x.kind = 2 ∨ x.kind = 4
 ·rw [if_pos c3]; exact hgo _ (q37 m.st x.d e.val).2.2
 rw [if_neg c3]
 by_cases c4 : x.kind = 3
 ·rw [if_pos c4]; exact hgo _ rfl
 rw [if_neg c4]
 by_cases c5 : x.kind = 8
 ·rw [if_pos c5]; exact hgo _ rfl
 rw [if_neg c5]
 by_cases c6 : x.kind = 9
 ·rw [if_pos c6]; exact hgo _ rfl
 rw [if_neg c6]
 exact hgo m.st rfl
theorem chain_step {W win : Int} {il : List Inst} {L k : Nat} {m : Conf} (hP : ProgOk W win il) (h : Inv win il L k m) (hch : Chain il m) (d : Dir) (hd : d ∈ allOf W win il m) : Chain il (stepOf W il m d) := by
 unfold allOf at hd
 rw [List.mem_append, List.mem_append, List.mem_append, q20, q20, q20] at hd
 unfold stepOf
 rcases hd with ((⟨i, hi, _, rfl⟩ | ⟨i, hi, hc, rfl⟩) | ⟨i, hi, hc, rfl⟩) | hc
 ·simp only [if_true]
  exact chain_fetch hP h hch i (by omega) (by have := (guesses_bounds win il m).1; omega)
 ·simp only [show ¬ ((2 : Int) = 1) by omega, if_false, if_true, Int.toNat_natCast]
  exact chain_do hP h hch i hi hc
 ·simp only [show ¬ ((3 : Int) = 1) by omega, show ¬ ((3 : Int) = 2) by omega, if_false, if_true, Int.toNat_natCast]
  exact chain_addr hP hch i hi hc
 ·split at hc
  ·rename_i hr
   rw [List.mem_singleton] at hc
   subst hc
   simp only [show ¬ ((4 : Int) = 1) by omega, show ¬ ((4 : Int) = 2) by omega, show ¬ ((4 : Int) = 3) by omega, if_false]
   exact chain_ret hch hr
  ·cases hc
end
end Go.Proofs.Ytchldbkjapnlcaa
