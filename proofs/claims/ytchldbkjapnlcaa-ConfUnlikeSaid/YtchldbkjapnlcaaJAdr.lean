/- A machine that a walk came to: each number of it fits into 64 bits. Plain law, no program in sight. -/
import Derived.Test.YtchldbkjapnlcaaJChain
import Derived.Test.YtchldbkjapnlcaaJd
import Derived.Test.YtchldbkjapnlcaaJp
set_option linter.unusedVariables false
set_option linter.unusedSimpArgs false
section
namespace Go.Proofs.Ytchldbkjapnlcaa
open Go.RowKit

def Adr (m : Conf) : Prop := ∀ e ∈ m.buf, N4 e.addr
theorem adr_set {l : List Ent} (h : ∀ e ∈ l, N4 e.addr) (i : Nat) (e1 : Ent) (h1 : N4 e1.addr) : ∀ e ∈ l.set i e1, N4 e.addr := fun e he => by
 rcases List.mem_or_eq_of_mem_set he with he | rfl
 ·exact h e he
 ·exact h1
theorem adr_goes {l : List Ent} (h : ∀ e ∈ l, N4 e.addr) (i : Nat) (e1 : Ent) (h1 : N4 e1.addr) (t : Int) : ∀ e ∈ goesBuf (l.set i e1) i t, N4 e.addr := fun e he => by
 unfold goesBuf at he
 cases hg : (l.set i e1)[i]? with
 | none => rw [hg] at he; exact adr_set h i e1 h1 e he
 | some e2 =>
  rw [hg] at he
  simp only at he
  have h2 : N4 e2.addr := adr_set h i e1 h1 e2 (List.mem_of_getElem? hg)
  split at he
  ·exact adr_set h i e1 h1 e he
  ·exact adr_set (adr_set h i e1 h1) i { e2 with next := t } h2 e (List.mem_of_mem_take he)
theorem adr_do {W win : Int} {il : List Inst} {m : Conf} (hP : ProgOk W win il) (h : Adr m) (i : Nat) (hi : i < m.buf.length) : Adr (doConf W il m i) := by
 have h0 : m.buf[i]? = some m.buf[i] := List.getElem?_eq_getElem hi
 unfold doConf
 rw [h0]
 simp only [Option.getD_some]
 have hb := h m.buf[i] (List.getElem_mem hi)
 generalize m.buf[i] = e at *
 generalize instAt il e.pc = x at *
 unfold Adr doOut
 simp only
 by_cases k1 : x.kind = 1
 ·rw [if_pos k1]; exact adr_set h i _ hb
 rw [if_neg k1]
 by_cases k4 : x.kind = 4
 ·rw [if_pos k4]; exact adr_set h i _ hb
 rw [if_neg k4]
 by_cases k3 : x.kind = 3
 ·rw [if_pos k3]; exact adr_set h i _ hb
 rw [if_neg k3]
 by_cases k2 : x.kind = 2
 ·rw [if_pos k2]
  split
  ·exact adr_set h i _ (maskW_n4 _ _ hP.W)
  ·exact adr_set h i _ (maskW_n4 _ _ hP.W)
 rw [if_neg k2]
 by_cases k5 : x.kind = 5
 ·rw [if_pos k5]; exact adr_goes h i { e with done := true } hb _
 rw [if_neg k5]
 by_cases k7 : x.kind = 7
 ·rw [if_pos k7]; exact adr_goes h i { e with done := true } hb _
 rw [if_neg k7]
 have htk : (m.buf.set i { e with done := true }).take i = m.buf.take i := by rw [List.take_set_of_le (Nat.le_refl _)]
 rw [htk]
 cases hr : realOf il m.st.stack (m.buf.take i) with
 | none => exact adr_set h i _ hb
 | some s =>
  simp only
  cases hg : s.getLast? with
  | none => exact adr_set h i _ hb
  | some t => exact adr_goes h i { e with done := true } hb _
theorem adr_addr {W win : Int} {il : List Inst} {m : Conf} (hP : ProgOk W win il) (h : Adr m) (i : Nat) (hi : i < m.buf.length) : Adr (addrConf W il m i) := by
 have h0 : m.buf[i]? = some m.buf[i] := List.getElem?_eq_getElem hi
 unfold addrConf
 rw [h0]
 simp only [Option.getD_some]
 generalize m.buf[i] = e at *
 generalize instAt il e.pc = x at *
 unfold Adr addrOut
 simp only
 split
 ·exact adr_set h i _ (maskW_n4 _ _ hP.W)
 ·cases hz : hazOf il (m.buf.set i { e with addr := maskW W ((aOf W il m i x).1 + (bOf W il m i x).1), known := true }) i (maskW W ((aOf W il m i x).1 + (bOf W il m i x).1)) with
  | none => exact adr_set h i _ (maskW_n4 _ _ hP.W)
  | some j => exact fun e1 he => adr_set h i { e with addr := maskW W ((aOf W il m i x).1 + (bOf W il m i x).1), known := true } (maskW_n4 _ _ hP.W) e1 (List.mem_of_mem_take he)
theorem adr_fetch {il : List Inst} {m : Conf} (h : Adr m) (g : Int) : Adr (fetchOf il m g) := by
 have h0 : N4 (fetchEnt il m g).1.addr := by
  have z : N4 0 := ⟨by decide, by decide⟩
  unfold fetchEnt
  simp only
  split
  ·split <;> exact z
  ·split
   ·exact z
   ·split
    ·exact z
    ·split
     ·split <;> exact z
     ·split
      ·exact z
      ·split <;> exact z
 unfold fetchOf
 intro e he
 rcases List.mem_append.1 he with he | he
 ·exact h e he
 ·rw [List.mem_singleton] at he
  rw [he]
  exact h0
theorem adr_ret {il : List Inst} {m : Conf} (h : Adr m) : Adr (retireOf il m) := by
 unfold retireOf
 cases hb : m.buf with
 | nil => intro e he; simp only at he; rw [hb] at he; cases he
 | cons e0 t =>
  simp only
  have hp : ∀ e ∈ popEnts (e0 :: t), N4 e.addr := fun e he => by
   obtain ⟨b, hbm, rfl⟩ := List.mem_map.1 (show e ∈ t.map Ent.down from he)
   have := h b (by rw [hb]; exact List.mem_cons_of_mem _ hbm)
   unfold Ent.down
   split <;> exact this
  have hn : Adr ⟨m.st, [], [], 0⟩ := fun _ he => by cases he
  repeat' split
  all_goals first | exact hp | exact fun _ he => (by cases he)
theorem adr_step {W win : Int} {il : List Inst} {m : Conf} (hP : ProgOk W win il) (h : Adr m) (d : Dir) (hd : d ∈ allOf W win il m) : Adr (stepOf W il m d) := by
 unfold allOf at hd
 rw [List.mem_append, List.mem_append, List.mem_append, dirsTo_mem, dirsTo_mem, dirsTo_mem] at hd
 unfold stepOf
 rcases hd with ((⟨i, hi, _, rfl⟩ | ⟨i, hi, hc, rfl⟩) | ⟨i, hi, hc, rfl⟩) | hc
 ·simp only [if_true]
  exact adr_fetch h i
 ·simp only [show ¬ ((2 : Int) = 1) by omega, if_false, if_true, Int.toNat_natCast]
  exact adr_do hP h i hi
 ·simp only [show ¬ ((3 : Int) = 1) by omega, show ¬ ((3 : Int) = 2) by omega, if_false, if_true, Int.toNat_natCast]
  exact adr_addr hP h i hi
 ·split at hc
  ·rw [List.mem_singleton] at hc
   subst hc
   simp only [show ¬ ((4 : Int) = 1) by omega, show ¬ ((4 : Int) = 2) by omega, show ¬ ((4 : Int) = 3) by omega, if_false]
   exact adr_ret h
  ·cases hc
def InvA (win : Int) (il : List Inst) (L k : Nat) (m : Conf) : Prop := Inv win il L k m ∧ Adr m
theorem keepsA {W win : Int} {il : List Inst} {L : Nat} (hP : ProgOk W win il) (hL : L ≤ 1000) : Keeps W win il (InvA win il L) := ⟨fun _ _ hk h => inv_fit hP h.1 (by omega) hL, fun _ _ d h hd => ⟨inv_step hP h.1 d hd, adr_step hP h.2 d hd⟩⟩
theorem n4_64 {x : Int} (h : N4 x) : I64 x := by have := h.1; have := h.2; unfold I64; omega
/-- Each number of a machine that a walk came to fits. -/
theorem ints_64 {W win : Int} {il : List Inst} {L k : Nat} {m : Conf} (hP : ProgOk W win il) (h : Inv win il L k m) (ha : Adr m) (hL : L ≤ 1000) (hk : k ≤ 1000) : ∀ x ∈ cfInts m, I64 x := by
 have hlen := hP.len
 have hw := hP.win
 have small : ∀ {x : Int}, -10 ≤ x → x ≤ 100000 → I64 x := fun h1 h2 => by unfold I64; omega
 have htI : ∀ b, I64 (tI b) := fun b => by cases b <;> unfold tI I64 <;> decide
 have hml := h.ml
 have hsl := h.sl
 have hbl := h.bl
 have hrl := h.rl
 have hpc := h.pc
 intro x hx
 unfold cfInts stInts at hx
 simp only [List.mem_append, List.mem_cons, List.not_mem_nil, or_false] at hx
 rcases hx with ((((((((hx | hx) | hx) | hx) | hx) | hx) | hx) | hx) | hx) | hx
 ·rcases hx with rfl | rfl | rfl | rfl | rfl
  ·exact n4_64 h.r0
  ·exact n4_64 h.r1
  ·exact n4_64 h.r2
  ·exact n4_64 h.r3
  ·exact small (by omega) (by omega)
 ·exact n4_64 (h.mem x hx)
 ·rw [hx]; exact small (by omega) (by omega)
 ·have := h.stk x hx; exact small (by omega) (by omega)
 ·rw [hx]; exact small (by omega) (by omega)
 ·rw [hx]; exact small (by omega) (by omega)
 ·obtain ⟨e, he, hx⟩ := List.mem_flatMap.1 hx
  have g := h.ents e he
  unfold entInts at hx
  simp only [List.mem_cons, List.not_mem_nil, or_false] at hx
  rcases hx with rfl | rfl | rfl | rfl | rfl | rfl | rfl | rfl
  ·have := g.pc; exact small (by omega) (by omega)
  ·exact n4_64 g.val
  ·exact n4_64 (ha e he)
  ·have := g.frm; exact small (by omega) (by omega)
  ·have := g.next; exact small (by omega) (by omega)
  ·exact htI _
  ·exact htI _
  ·exact htI _
 ·rw [hx]; exact small (by omega) (by omega)
 ·have := h.rsb x hx; exact small (by omega) (by omega)
 ·rw [hx]
  rcases h.fin with g | ⟨g | g, _⟩ <;> rw [g] <;> unfold I64 <;> decide
end Go.Proofs.Ytchldbkjapnlcaa
end
