/- The law ConfUnlike: two machines have the same bytes just if they are the same. -/
import Derived.Test.YtchldbkjapnlcaaJAwa13
import Derived.Test.YtchldbkjapnlcaaJAdr
import Derived.Test.YtchldbkjapnlcaaJl
import Derived.Test.YtchldbkjapnlcaaJb
import Derived.Deep.DeepCutAuto
import Derived.BigQuiet
import Derived.Deep.CutBlock
set_option linter.unusedVariables false
set_option linter.unusedSimpArgs false
namespace Go.Proofs.Ytchldbkjapnlcaa
open Go.RowKit

theorem i64_and7_13 (n : Int) : bits .and .i64 n 7 = n % 8 := by
  have h : (BitVec.ofInt 64 7).toNat = 2 ^ 3 - 1 := by decide
  have key : (BitVec.ofInt 64 n &&& BitVec.ofInt 64 7).toNat = (n % ((2 ^ 64 : Nat) : Int)).toNat % 2 ^ 3 := by
    rw [BitVec.toNat_and, BitVec.toNat_ofInt, h, Nat.and_two_pow_sub_one_eq_mod]
  show IntKind.i64.wrap ((BitVec.ofInt 64 n &&& BitVec.ofInt 64 7).toNat : Nat) = n % 8
  rw [key, IntKind.wrap_i64]
  omega
/-- The masked number under a name. -/
theorem mask7_13 (n : Int) : ∃ M : Int, bits .and .i64 n 7 = M ∧ 0 ≤ M ∧ M ≤ 7 := ⟨n % 8, i64_and7_13 n, by omega, by omega⟩
structure E64 (e : Ent) : Prop where
  pc : I64 e.pc
  val : I64 e.val
  addr : I64 e.addr
  frm : I64 e.frm
  next : I64 e.next
/-- A machine whose numbers fit. -/
structure C64 (m : Conf) : Prop where
  r0 : I64 m.st.r0
  r1 : I64 m.st.r1
  r2 : I64 m.st.r2
  r3 : I64 m.st.r3
  mem : ∀ x ∈ m.st.mem, I64 x
  stk : ∀ x ∈ m.st.stack, I64 x
  pc : I64 m.st.pc
  buf : ∀ e ∈ m.buf, E64 e
  rsb : ∀ x ∈ m.rsb, I64 x
  fin : I64 m.fin
  ml : m.st.mem.length ≤ 1000
  sl : m.st.stack.length ≤ 1000
  bl : m.buf.length ≤ 1000
  rl : m.rsb.length ≤ 1000
theorem small64 {x : Int} (h1 : -10 ≤ x) (h2 : x ≤ 100000) : I64 x := by unfold I64; omega
theorem C64.ints {m : Conf} (h : C64 m) : ∀ x ∈ cfInts m, I64 x := by
  have htI : ∀ b, I64 (tI b) := fun b => by cases b <;> unfold tI I64 <;> decide
  have h1 := h.ml
  have h2 := h.sl
  have h3 := h.bl
  have h4 := h.rl
  intro x hx
  unfold cfInts stInts at hx
  simp only [List.mem_append, List.mem_cons, List.not_mem_nil, or_false] at hx
  rcases hx with ((((((((hx | hx) | hx) | hx) | hx) | hx) | hx) | hx) | hx) | hx
  · rcases hx with rfl | rfl | rfl | rfl | rfl
    · exact h.r0
    · exact h.r1
    · exact h.r2
    · exact h.r3
    · exact small64 (by omega) (by omega)
  · exact h.mem x hx
  · rw [hx]; exact small64 (by omega) (by omega)
  · exact h.stk x hx
  · rw [hx]; exact h.pc
  · rw [hx]; exact small64 (by omega) (by omega)
  · obtain ⟨e, he, hx⟩ := List.mem_flatMap.1 hx
    have g := h.buf e he
    unfold entInts at hx
    simp only [List.mem_cons, List.not_mem_nil, or_false] at hx
    rcases hx with rfl | rfl | rfl | rfl | rfl | rfl | rfl | rfl
    · exact g.pc
    · exact g.val
    · exact g.addr
    · exact g.frm
    · exact g.next
    · exact htI _
    · exact htI _
    · exact htI _
  · rw [hx]; exact small64 (by omega) (by omega)
  · exact h.rsb x hx
  · rw [hx]; exact h.fin
theorem C64.of {W win : Int} {il : List Inst} {L k : Nat} {m : Conf} (hP : ProgOk W win il) (h : Inv win il L k m) (ha : Adr m) (hL : L ≤ 1000) (hk : k ≤ 1000) : C64 m := by
  have hlen := hP.len
  have hw := hP.win
  have hbl := h.bl
  have hrl := h.rl
  have hsl := h.sl
  refine ⟨n4_64 h.r0, n4_64 h.r1, n4_64 h.r2, n4_64 h.r3, fun x hx => n4_64 (h.mem x hx), fun x hx => ?_, small64 (by have := h.pc; omega) (by have := h.pc; omega), fun e he => ?_, fun x hx => ?_, ?_, by rw [h.ml]; exact hL, by omega, by omega, by omega⟩
  · have := h.stk x hx; exact small64 (by omega) (by omega)
  · have g := h.ents e he
    exact ⟨small64 (by have := g.pc; omega) (by have := g.pc; omega), n4_64 g.val, n4_64 (ha e he), small64 (by have := g.frm; omega) (by have := g.frm; omega), small64 (by have := g.next; omega) (by have := g.next; omega)⟩
  · have := h.rsb x hx; exact small64 (by omega) (by omega)
  · rcases h.fin with g | ⟨g | g, _⟩ <;> rw [g] <;> unfold I64 <;> decide
theorem zIs {w12 wx : World} {B : Nat} {c : Cnf} {m : Conf} (h : CfIs w12 c m) (hb : Below w12.heap.size w12 wx) {s : Sl} {l : List Ent} (ho : OwnE wx B (.slice s.A s.n s.c) l) : CfIs wx { c with buf := s } { m with buf := l } := ⟨h.st.past hb, OwnE.is ho, h.rsb.past hb, h.fin⟩
theorem row30_0 (a b c : Cnf) {j : Nat} {u : Value} (h : a.cs[j]? = some u) : (a.cs ++ (b.cs ++ c.cs)).toArray[0 * 10 + j]? = some u := by
  have hj : j < a.cs.length := (List.getElem?_eq_some_iff.1 h).1
  rw [Nat.zero_mul, Nat.zero_add, List.getElem?_toArray, List.getElem?_append_left hj]
  exact h
theorem row30_1 (a b c : Cnf) {j : Nat} {u : Value} (h : b.cs[j]? = some u) : (a.cs ++ (b.cs ++ c.cs)).toArray[1 * 10 + j]? = some u := by
  have hj : j < b.cs.length := (List.getElem?_eq_some_iff.1 h).1
  have ha : a.cs.length = 10 := rfl
  rw [List.getElem?_toArray, List.getElem?_append_right (by omega), List.getElem?_append_left (by omega), ha, show 1 * 10 + j - 10 = j by omega]
  exact h
theorem row30_2 (a b c : Cnf) {j : Nat} {u : Value} (h : c.cs[j]? = some u) : (a.cs ++ (b.cs ++ c.cs)).toArray[2 * 10 + j]? = some u := by
  have ha : a.cs.length = 10 := rfl
  have hb : b.cs.length = 10 := rfl
  rw [List.getElem?_toArray, List.getElem?_append_right (by omega), List.getElem?_append_right (by omega), ha, hb, show 2 * 10 + j - 10 - 10 = j by omega]
  exact h
theorem wrap64 (n : Int) : I64 (IntKind.i64.wrap n) := by rw [IntKind.wrap_i64]; unfold I64; omega
set_option maxRecDepth 100000 in
set_option maxHeartbeats 6000000 in
theorem cunl_walk (A2 : Option Addr) (c2 : Nat) (mk : List Int) (A3 : Option Addr) (c3 : Nat) (l : List Int) (A4 : Option Addr) (c4 : Nat) (wk : List Int) (A5 : Option Addr) (c5 : Nat) (wb : List Int) (how tto : Int) (w : World) (hr2 : RdI w A2 mk) (hr3 : RdI w A3 l) (hr4 : RdI w A4 wk) (hr5 : RdI w A5 wb) (hto : I64 tto) :
    Calls Try.prog 17 #[.slice A2 mk.length c2, .slice A3 l.length c3, .slice A4 wk.length c4, .slice A5 wb.length c5, .int .i64 how, .int .i64 tto] w (SaysTrue w) := by
  have HAW := Kept.mk awake13
  have HR5 := Kept.mk hr5
  have HTO := Kept.mk hto
  clear hr5 hto
  have HR2 := Kept.mk hr2
  have HR3 := Kept.mk hr3
  have HR4 := Kept.mk hr4
  clear hr2 hr3 hr4
  go_enter Try.func17, Try.ntmps17
  go_wp2_with fail
  refine (make_at A2 mk mk.length c2 w rfl HR2.out).mono ?_
  rintro en w6 ⟨p, il, ml, rfl, hmk, b6⟩
  have W6 := Kept.mk b6
  obtain ⟨pmA, pmC, hpm, -, -⟩ := hmk.mem
  obtain ⟨plA, plN, plC, hpl⟩ := hmk.lab
  obtain ⟨pW, pwin, pfuel, pr0, pr1, pr2, pr3, pmems, plabels, pA, pN, pC⟩ := p
  simp only at hpm hpl
  subst hpm hpl
  have HMK := Kept.mk hmk
  clear hmk b6
  obtain ⟨HPM, hPM⟩ : ∃ x : Kept (ProgOk pW pwin il), x = x := ⟨⟨make_prog HMK.out⟩, rfl⟩
  clear hPM
  go_wp2_with fail
  have ba := below_alloc_self w6 (.cells (Prg.cs (⟨pW, pwin, pfuel, pr0, pr1, pr2, pr3, .slice pmA ml.length pmC, .slice plA plN plC, pA, pN, pC⟩ : Prg)).toArray 33)
  refine (states_mach (⟨pW, pwin, pfuel, pr0, pr1, pr2, pr3, .slice pmA ml.length pmC, .slice plA plN plC, pA, pN, pC⟩ : Prg) il ml A3 l l.length c3 (w6.alloc (.cells (Prg.cs (⟨pW, pwin, pfuel, pr0, pr1, pr2, pr3, .slice pmA ml.length pmC, .slice plA plN plC, pA, pN, pC⟩ : Prg)).toArray 33)) rfl (HMK.out.past ba) (HR3.out.past (W6.out.trans (ba.mono W6.out.size)))).mono ?_
  rintro en w7 ⟨s, t, ms, mt, rfl, hs, ht, b7⟩
  have XP := Kept.mk (heap_keep (heap_alloc_new w6 (.cells (Prg.cs (⟨pW, pwin, pfuel, pr0, pr1, pr2, pr3, .slice pmA ml.length pmC, .slice plA plN plC, pA, pN, pC⟩ : Prg)).toArray 33)) b7)
  have W7 := Kept.mk ((W6.out.trans (ba.mono W6.out.size)).trans (b7.mono (by have := W6.out.size; simp; omega)))
  have HMK := Kept.mk ((HMK.out.past ba).past b7)
  have HS := Kept.mk hs
  have HT := Kept.mk ht
  clear hs ht b7 ba
  obtain ⟨s0, s1, s2, s3, ⟨sA, sN, sC⟩, ⟨uA, uN, uC⟩, s6⟩ := s
  obtain ⟨t0, t1, t2, t3, ⟨tA, tN, tC⟩, ⟨vA, vN, vC⟩, t6⟩ := t
  go_upto_region 3 with (fail)
  have bb := (below_alloc_self w7 (.cells #[.int .i64 s0, .int .i64 s1, .int .i64 s2, .int .i64 s3, .slice sA sN sC, .slice uA uN uC, .int .i64 s6] 36)).alloc (by simp) (.cells #[.int .i64 t0, .int .i64 t1, .int .i64 t2, .int .i64 t3, .slice tA tN tC, .slice vA vN vC, .int .i64 t6] 36)
  have XS := Kept.mk ((heap_alloc_old _ _ (by simp)).trans (heap_alloc_new w7 (.cells #[.int .i64 s0, .int .i64 s1, .int .i64 s2, .int .i64 s3, .slice sA sN sC, .slice uA uN uC, .int .i64 s6] 36)) : ((w7.alloc (.cells #[.int .i64 s0, .int .i64 s1, .int .i64 s2, .int .i64 s3, .slice sA sN sC, .slice uA uN uC, .int .i64 s6] 36)).alloc (.cells #[.int .i64 t0, .int .i64 t1, .int .i64 t2, .int .i64 t3, .slice tA tN tC, .slice vA vN vC, .int .i64 t6] 36)).heap[w7.heap.size]? = some (.cells #[.int .i64 s0, .int .i64 s1, .int .i64 s2, .int .i64 s3, .slice sA sN sC, .slice uA uN uC, .int .i64 s6] 36))
  have XT := Kept.mk (heap_alloc2_new w7 (.cells #[.int .i64 s0, .int .i64 s1, .int .i64 s2, .int .i64 s3, .slice sA sN sC, .slice uA uN uC, .int .i64 s6] 36) (.cells #[.int .i64 t0, .int .i64 t1, .int .i64 t2, .int .i64 t3, .slice tA tN tC, .slice vA vN vC, .int .i64 t6] 36))
  have XP := Kept.mk (heap_keep XP.out bb)
  have W8 := Kept.mk (W7.out.trans (bb.mono W7.out.size))
  have HMK := Kept.mk (HMK.out.past bb)
  have HS := Kept.mk (HS.out.past bb)
  have HT := Kept.mk (HT.out.past bb)
  clear bb
  generalize (w7.alloc (.cells #[.int .i64 s0, .int .i64 s1, .int .i64 s2, .int .i64 s3, .slice sA sN sC, .slice uA uN uC, .int .i64 s6] 36)).alloc (.cells #[.int .i64 t0, .int .i64 t1, .int .i64 t2, .int .i64 t3, .slice tA tN tC, .slice vA vN vC, .int .i64 t6] 36) = w8 at *
  have Y6 := fun j => cell_of_row w8 w6.heap.size j _ _ _ XP.out
  have Y7 := fun j => cell_of_row w8 w7.heap.size j _ _ _ XS.out
  simp only [Prg.cs] at Y6
  go_wp2_with fail
  refine (walk_mach (⟨pW, pwin, pfuel, pr0, pr1, pr2, pr3, .slice pmA ml.length pmC, .slice plA plN plC, pA, pN, pC⟩ : Prg) il ml ⟨s0, s1, s2, s3, ⟨sA, sN, sC⟩, ⟨uA, uN, uC⟩, s6⟩ ms A4 wk wk.length c4 w8 rfl HMK.out HS.out (HR4.out.past W8.out)).mono ?_
  rintro en w9 ⟨c, m, dv, out, k, rfl, hm, hd, hwo, b9⟩
  obtain ⟨dA, dC, rfl, -, -⟩ := hd.shape
  have W9 := Kept.mk (W8.out.trans (b9.mono W8.out.size))
  have XP := Kept.mk (heap_keep XP.out b9)
  have HM := Kept.mk hm
  have HWO := Kept.mk hwo
  have HSO := Kept.mk HS.out.ok
  have B89 := Kept.mk b9
  clear hd hwo b9 hm Y6 Y7 HS XS
  obtain ⟨⟨r0, r1, r2, r3, ⟨mA, mN, mC⟩, ⟨kA, kN, kC⟩, cpc⟩, ⟨bA, bN, bC⟩, ⟨qA, qN, qC⟩, fin⟩ := c
  have hbn : bN = m.buf.length := HM.out.cf.buf.n
  have hkn : kN = m.st.stack.length := HM.out.cf.st.stack.n
  have hmn : mN = m.st.mem.length := HM.out.cf.st.mem.n
  have hqn : qN = m.rsb.length := HM.out.cf.rsb.n
  subst hbn hkn hmn hqn
  have HF := Kept.mk (inv_fit HM.out.ok HM.out.inv (Nat.le_trans HM.out.kl (by decide)) HM.out.ll)
  go_upto_region 4 with (fail)
  have bc := below_alloc_self w9 (.cells #[.int .i64 r0, .int .i64 r1, .int .i64 r2, .int .i64 r3, .slice mA m.st.mem.length mC, .slice kA m.st.stack.length kC, .int .i64 cpc, .slice bA m.buf.length bC, .slice qA m.rsb.length qC, .int .i64 fin] 41)
  have XC := Kept.mk (heap_alloc_new w9 (.cells #[.int .i64 r0, .int .i64 r1, .int .i64 r2, .int .i64 r3, .slice mA m.st.mem.length mC, .slice kA m.st.stack.length kC, .int .i64 cpc, .slice bA m.buf.length bC, .slice qA m.rsb.length qC, .int .i64 fin] 41))
  have XP := Kept.mk (heap_keep XP.out bc)
  have W10 := Kept.mk (W9.out.trans (bc.mono W9.out.size))
  have HM := Kept.mk (HM.out.past bc)
  have B80 := Kept.mk (B89.out.trans (bc.mono B89.out.size))
  clear bc
  generalize w9.alloc (.cells #[.int .i64 r0, .int .i64 r1, .int .i64 r2, .int .i64 r3, .slice mA m.st.mem.length mC, .slice kA m.st.stack.length kC, .int .i64 cpc, .slice bA m.buf.length bC, .slice qA m.rsb.length qC, .int .i64 fin] 41) = w10 at *
  have Y6 := fun j => cell_of_row w10 w6.heap.size j _ _ _ XP.out
  have Y7 := fun j => cell_of_row w10 (w7.heap.size + 1) j _ _ _ (heap_keep XT.out B80.out)
  simp only [Prg.cs] at Y6
  go_wp2_with fail
  refine (walk_mach (⟨pW, pwin, pfuel, pr0, pr1, pr2, pr3, .slice pmA ml.length pmC, .slice plA plN plC, pA, pN, pC⟩ : Prg) il ml ⟨t0, t1, t2, t3, ⟨tA, tN, tC⟩, ⟨vA, vN, vC⟩, t6⟩ mt A5 wb wb.length c5 w10 rfl (HMK.out.past B80.out) (HT.out.past B80.out) (HR5.out.past W10.out)).mono ?_
  rintro en w11 ⟨c', m2, dv', out', k', rfl, hm2, hd', hwo2, b11⟩
  obtain ⟨dA', dC', rfl, -, -⟩ := hd'.shape
  obtain ⟨⟨y0, y1, y2, y3, ⟨ymA, ymN, ymC⟩, ⟨ysA, ysN, ysC⟩, ypc⟩, ⟨ybA, ybN, ybC⟩, ⟨yqA, yqN, yqC⟩, yf⟩ := c'
  have HM2 := Kept.mk hm2
  have HWO2 := Kept.mk hwo2
  have HMO := Kept.mk HT.out.ok
  clear hm2 hwo2 hd' Y6 Y7
  go_upto_region 5 with (fail)
  have bX := b11.trans ((below_alloc_self w11 (.cells #[.int .i64 (y0), .int .i64 (y1), .int .i64 (y2), .int .i64 (y3), .slice ymA ymN ymC, .slice ysA ysN ysC, .int .i64 (ypc), .slice ybA ybN ybC, .slice yqA yqN yqC, .int .i64 (yf)] 41)).mono b11.size)
  have X18 := heap_alloc_new w11 (.cells #[.int .i64 (y0), .int .i64 (y1), .int .i64 (y2), .int .i64 (y3), .slice ymA ymN ymC, .slice ysA ysN ysC, .int .i64 (ypc), .slice ybA ybN ybC, .slice yqA yqN yqC, .int .i64 (yf)] 41)
  have HM2 := Kept.mk (HM2.out.past (below_alloc_self w11 (.cells #[.int .i64 (y0), .int .i64 (y1), .int .i64 (y2), .int .i64 (y3), .slice ymA ymN ymC, .slice ysA ysN ysC, .int .i64 (ypc), .slice ybA ybN ybC, .slice yqA yqN yqC, .int .i64 (yf)] 41)))
  have HM := Kept.mk (HM.out.past bX)
  have XC := Kept.mk (heap_keep XC.out bX)
  have W11 := Kept.mk (W10.out.trans (bX.mono W10.out.size))
  clear bX b11 W10 B80 HMK HT XT XP HR5
  generalize w11.alloc (.cells #[.int .i64 (y0), .int .i64 (y1), .int .i64 (y2), .int .i64 (y3), .slice ymA ymN ymC, .slice ysA ysN ysC, .int .i64 (ypc), .slice ybA ybN ybC, .slice yqA yqN yqC, .int .i64 (yf)] 41) = w12 at *
  obtain ⟨S18, hS18⟩ : ∃ S, w11.heap.size = S := ⟨_, rfl⟩
  rw [hS18] at X18 ⊢
  clear hS18
  have K18 := Kept.mk X18
  clear X18
  have HK := keepsA (L := ms.mem.length) HM.out.ok HM.out.ll
  obtain ⟨k1, hk1, hik⟩ := walk_keeps HK (wk.take 60) 0 _ ⟨inv_start HM.out.ok.win.1 HSO.out, fun _ he => (by cases he)⟩
  rw [← HWO.out] at hik
  have C1 := Kept.mk (C64.of HM.out.ok HM.out.inv hik.2 HM.out.ll (Nat.le_trans HM.out.kl (by decide)))
  have HK2 := keepsA (L := mt.mem.length) HM2.out.ok HM2.out.ll
  obtain ⟨k2, hk2, hik2⟩ := walk_keeps HK2 (wb.take 60) 0 _ ⟨inv_start HM2.out.ok.win.1 HMO.out, fun _ he => (by cases he)⟩
  rw [← HWO2.out] at hik2
  have C2 := Kept.mk (C64.of HM2.out.ok HM2.out.inv hik2.2 HM2.out.ll (Nat.le_trans HM2.out.kl (by decide)))
  have hrl := HM.out.inv.rl
  have hbl3 := HM.out.buf_len
  clear HK hk1 hik HK2 hk2 hik2
  generalize (Value.agg #[.int .i64 (y0), .int .i64 (y1), .int .i64 (y2), .int .i64 (y3), .slice ymA ymN ymC, .slice ysA ysN ysC, .int .i64 (ypc), .slice ybA ybN ybC, .slice yqA yqN yqC, .int .i64 (yf)]) = xV
  generalize (Value.agg #[.int .i64 (pW), .int .i64 (pwin), .int .i64 (pfuel), .int .i64 (pr0), .int .i64 (pr1), .int .i64 (pr2), .int .i64 (pr3), .slice pmA ml.length pmC, .slice plA plN plC, .slice pA pN pC]) = xP
  generalize (Value.agg #[.int .i64 (s0), .int .i64 (s1), .int .i64 (s2), .int .i64 (s3), .slice sA sN sC, .slice uA uN uC, .int .i64 (s6)]) = xS
  generalize (Value.agg #[.int .i64 (t0), .int .i64 (t1), .int .i64 (t2), .int .i64 (t3), .slice tA tN tC, .slice vA vN vC, .int .i64 (t6)]) = xT
  obtain ⟨M7, hM7, hM70, hM71⟩ := mask7_13 how
  obtain ⟨Mj, hMj, hMj0, hMj1⟩ := mask7_13 (how / 8)
  obtain ⟨Mr, hMr, hMr0, hMr1⟩ := mask3 tto
  obtain ⟨Mb, hMb, hMb0, hMb1⟩ := mask255 tto
  have Y9 := fun j => cell_of_row w12 w9.heap.size j _ _ _ XC.out
  go_upto_region 6 with (fail)
  have bX := below_alloc_self w12 (.cells #[.int .i64 (r0), .int .i64 (r1), .int .i64 (r2), .int .i64 (r3), .slice mA m.st.mem.length mC, .slice kA m.st.stack.length kC, .int .i64 (cpc), .slice bA m.buf.length bC, .slice qA m.rsb.length qC, .int .i64 (fin)] 41)
  have X20 := heap_alloc_new w12 (.cells #[.int .i64 (r0), .int .i64 (r1), .int .i64 (r2), .int .i64 (r3), .slice mA m.st.mem.length mC, .slice kA m.st.stack.length kC, .int .i64 (cpc), .slice bA m.buf.length bC, .slice qA m.rsb.length qC, .int .i64 (fin)] 41)
  clear Y9
  have hs13 : w12.heap.size + 1 ≤ (w12.alloc (.cells #[.int .i64 (r0), .int .i64 (r1), .int .i64 (r2), .int .i64 (r3), .slice mA m.st.mem.length mC, .slice kA m.st.stack.length kC, .int .i64 (cpc), .slice bA m.buf.length bC, .slice qA m.rsb.length qC, .int .i64 (fin)] 41)).heap.size := by simp
  have HB := Kept.mk bX
  have HRB := Kept.mk (HM.out.past bX).cf.buf.r
  clear bX
  generalize w12.alloc (.cells #[.int .i64 (r0), .int .i64 (r1), .int .i64 (r2), .int .i64 (r3), .slice mA m.st.mem.length mC, .slice kA m.st.stack.length kC, .int .i64 (cpc), .slice bA m.buf.length bC, .slice qA m.rsb.length qC, .int .i64 (fin)] 41) = w13 at *
  obtain ⟨S20, hS20⟩ : ∃ S, w12.heap.size = S := ⟨_, rfl⟩
  rw [hS20] at X20 hs13 ⊢
  have YC := fun j => cell_of_row (w13.alloc (.cells #[] 55)) w9.heap.size j _ _ _ (heap_keep XC.out (HB.out.trans ((below_alloc_self w13 (.cells #[] 55)).mono HB.out.size)))
  go_wp2_with (at_builtin; go_must (refine append_ents _ rfl (.tmp 47) (.tmp 49) rfl (S20 + 1) rfl (OwnE.made hs13) (m := m.buf) rfl (HRB.out.past (below_alloc_self _ _)) (by simp; omega) (by simp; omega) ?_))
  intro v' w14 h1 h2 h3
  have h1 : OwnE w14 (S20 + 1) v' m.buf := by simpa using h1
  obtain ⟨zA, zC, rfl, -, -⟩ := OwnE.shape h1
  have hb := ((below_alloc_self w13 (.cells #[] 55)).mono hs13).trans h3
  have X20 := (hb.block S20 (by omega)).trans X20
  have HB := Kept.mk (HB.out.trans (hb.mono (by omega)))
  have HZ := Kept.mk h1
  clear h1 h2 h3 hb YC
  have Y20 := fun j => cell_of_row w14 S20 j _ _ _ X20
  have F20 := fun j => frozen_of_row w14 S20 j _ _ X20
  go_upto_block 0 with (fail)
  have XZ : (w14.setCell ⟨S20, 7, none⟩ (.slice zA m.buf.length zC)).heap[S20]? = some (.cells #[.int .i64 (r0), .int .i64 (r1), .int .i64 (r2), .int .i64 (r3), .slice mA m.st.mem.length mC, .slice kA m.st.stack.length kC, .int .i64 (cpc), .slice zA m.buf.length zC, .slice qA m.rsb.length qC, .int .i64 (fin)] 41 (0, 0)) := heap_setCell_same w14 S20 7 _ _ (.slice zA m.buf.length zC) X20
  have HZ := Kept.mk (OwnE.far HZ.out (p := ⟨S20, 7, none⟩) (Nat.lt_succ_self _) (.slice zA m.buf.length zC))
  have HB := Kept.mk (HB.out.setCell (p := ⟨S20, 7, none⟩) (show w12.heap.size ≤ S20 by omega) (.slice zA m.buf.length zC))
  clear Y20 F20 X20 hs13
  generalize w14.setCell ⟨S20, 7, none⟩ (.slice zA m.buf.length zC) = wd at *
  have HC0 : Kept (CfIs wd (⟨⟨r0, r1, r2, r3, ⟨mA, m.st.mem.length, mC⟩, ⟨kA, m.st.stack.length, kC⟩, cpc⟩, ⟨zA, m.buf.length, zC⟩, ⟨qA, m.rsb.length, qC⟩, fin⟩ : Cnf) m) := ⟨⟨(HM.out.past HB.out).cf.st, OwnE.is (s := ⟨zA, m.buf.length, zC⟩) HZ.out, (HM.out.past HB.out).cf.rsb, (HM.out.past HB.out).cf.fin⟩⟩
  have KZ := Kept.mk XZ
  have YZ := fun j => cell_of_row wd S20 j _ _ _ XZ
  have FZ := fun j => frozen_of_row wd S20 j _ _ XZ
  have YC := fun j => cell_of_row wd w9.heap.size j _ _ _ (heap_keep XC.out HB.out)
  have hSB : w12.heap.size ≤ S20 := by omega
  clear XZ
  go_cut [] (fun wx => ∃ (cz : Cnf) (mz : Conf), CfIs wx cz mz ∧ wx.heap[S20]? = some (.cells cz.cs.toArray 41 (0, 0)) ∧ C64 mz ∧ Below w12.heap.size w12 wx)
  case first =>
    have hor : M7 = 0 ∨ M7 = 1 ∨ M7 = 2 ∨ M7 = 3 ∨ 4 ≤ M7 := by omega
    rcases hor with rfl | rfl | rfl | rfl | h4
    · go_wp2_with fail
      go_meet
      have hb := HB.out.setCell (p := ⟨S20, 6, none⟩) hSB (.int .i64 tto)
      have hz := zIs HM.out.cf hb (s := ⟨zA, m.buf.length, zC⟩) (OwnE.far HZ.out (p := ⟨S20, 6, none⟩) (Nat.lt_succ_self _) (.int .i64 tto))
      exact ⟨(⟨⟨r0, r1, r2, r3, ⟨mA, m.st.mem.length, mC⟩, ⟨kA, m.st.stack.length, kC⟩, tto⟩, ⟨zA, m.buf.length, zC⟩, ⟨qA, m.rsb.length, qC⟩, fin⟩ : Cnf), { m with st := { m.st with pc := tto } }, ⟨⟨hz.st.r0, hz.st.r1, hz.st.r2, hz.st.r3, hz.st.mem, hz.st.stack, rfl⟩, hz.buf, hz.rsb, hz.fin⟩, heap_setCell_same wd S20 6 _ _ (.int .i64 tto) KZ.out, ⟨C1.out.r0, C1.out.r1, C1.out.r2, C1.out.r3, C1.out.mem, C1.out.stk, HTO.out, C1.out.buf, C1.out.rsb, C1.out.fin, C1.out.ml, C1.out.sl, C1.out.bl, C1.out.rl⟩, hb⟩
    · have YC := fun j => cell_of_row (wd.alloc (.cells #[] 3)) w9.heap.size j _ _ _ (heap_keep XC.out (HB.out.trans ((below_alloc_self wd (.cells #[] 3)).mono HB.out.size)))
      have HRQ := Kept.mk (HM.out.past HB.out).cf.rsb.r
      have hsd : S20 + 1 ≤ wd.heap.size := (Array.getElem?_eq_some_iff.1 KZ.out).1
      go_wp2_with (at_builtin; go_must (refine append_nums _ rfl (.tmp 131) (.tmp 133) rfl wd.heap.size rfl (OwnI.made (Nat.le_refl _)) (m := m.rsb) rfl (HRQ.out.past (below_alloc_self _ _)) (by simp; omega) (by simp) ?_))
      intro v1 wa h1 h2 h3
      have h1 : OwnI wa wd.heap.size v1 m.rsb := by simpa using h1
      have ba := (below_alloc_self wd (.cells #[] 3)).trans h3
      have HQ := Kept.mk h1
      have hsa : wd.heap.size ≤ wa.heap.size := ba.size
      clear h1 h2 h3 YC
      go_wp2_with (at_builtin; go_must (refine append_int _ rfl (.tmp 134) (.tmp 136) rfl wd.heap.size rfl (HQ.out.past (below_alloc_self _ _)) _ tto rfl (heap_at_new (by simp)) (by omega) (by simp; omega) ?_))
      intro v2 wb' h1 h2 h3
      have bb := ba.trans (((below_alloc_self wa (.cells #[.int .i64 tto] 3)).mono hsa).trans h3)
      obtain ⟨nA, nC, rfl, -, -⟩ := OwnI.shape h1
      have hql : (m.rsb ++ [tto]).length = m.rsb.length + 1 := by simp
      rw [hql] at h1 ⊢
      have HQ := Kept.mk h1
      have KZ2 := Kept.mk ((bb.block S20 (by omega)).trans KZ.out)
      have YZ := fun j => cell_of_row wb' S20 j _ _ _ KZ2.out
      have FZ := fun j => frozen_of_row wb' S20 j _ _ KZ2.out
      have HB2 := Kept.mk (HB.out.trans (bb.mono HB.out.size))
      have HZ2 := Kept.mk (HZ.out.past bb)
      clear h1 h2 h3 ba bb
      go_wp2_with fail
      go_meet
      have hb := HB2.out.setCell (p := ⟨S20, 8, none⟩) hSB (.slice nA (m.rsb.length + 1) nC)
      have hz := zIs HM.out.cf hb (s := ⟨zA, m.buf.length, zC⟩) (OwnE.far HZ2.out (p := ⟨S20, 8, none⟩) (Nat.lt_succ_self _) (.slice nA (m.rsb.length + 1) nC))
      refine ⟨(⟨⟨r0, r1, r2, r3, ⟨mA, m.st.mem.length, mC⟩, ⟨kA, m.st.stack.length, kC⟩, cpc⟩, ⟨zA, m.buf.length, zC⟩, ⟨nA, m.rsb.length + 1, nC⟩, fin⟩ : Cnf), { m with rsb := m.rsb ++ [tto] }, ⟨hz.st, hz.buf, OwnI.is (s := ⟨nA, m.rsb.length + 1, nC⟩) (OwnI.far HQ.out (p := ⟨S20, 8, none⟩) (show S20 < wd.heap.size by omega) (.slice nA (m.rsb.length + 1) nC)), hz.fin⟩, ?_, ⟨C1.out.r0, C1.out.r1, C1.out.r2, C1.out.r3, C1.out.mem, C1.out.stk, C1.out.pc, C1.out.buf, fun x hx => ?_, C1.out.fin, C1.out.ml, C1.out.sl, C1.out.bl, by show (m.rsb ++ [tto]).length ≤ 1000; rw [List.length_append, List.length_singleton]; omega⟩, ?_⟩
      · exact heap_setCell_same wb' S20 8 _ _ (.slice nA (m.rsb.length + 1) nC) KZ2.out
      · rcases List.mem_append.1 hx with hx | hx
        · exact C1.out.rsb x hx
        · rw [List.mem_singleton] at hx; rw [hx]; exact HTO.out
      · exact hb
    · go_wp2_with fail
      go_meet
      have hb := HB.out.setCell (p := ⟨S20, 9, none⟩) hSB (.int .i64 tto)
      have hz := zIs HM.out.cf hb (s := ⟨zA, m.buf.length, zC⟩) (OwnE.far HZ.out (p := ⟨S20, 9, none⟩) (Nat.lt_succ_self _) (.int .i64 tto))
      exact ⟨(⟨⟨r0, r1, r2, r3, ⟨mA, m.st.mem.length, mC⟩, ⟨kA, m.st.stack.length, kC⟩, cpc⟩, ⟨zA, m.buf.length, zC⟩, ⟨qA, m.rsb.length, qC⟩, tto⟩ : Cnf), { m with fin := tto }, ⟨hz.st, hz.buf, hz.rsb, rfl⟩, heap_setCell_same wd S20 9 _ _ (.int .i64 tto) KZ.out, ⟨C1.out.r0, C1.out.r1, C1.out.r2, C1.out.r3, C1.out.mem, C1.out.stk, C1.out.pc, C1.out.buf, C1.out.rsb, HTO.out, C1.out.ml, C1.out.sl, C1.out.bl, C1.out.rl⟩, hb⟩
    · have hr4 : Mr = 0 ∨ Mr = 1 ∨ Mr = 2 ∨ Mr = 3 := by omega
      rcases hr4 with rfl | rfl | rfl | rfl
      · have HN := Kept.mk (wrap64 (r0 + 1))
        generalize hv : IntKind.i64.wrap (r0 + 1) = nv at *
        go_wp2_with fail
        go_meet
        have hb := HB.out.setCell (p := ⟨S20, 0, none⟩) hSB (.int .i64 nv)
        have hz := zIs HM.out.cf hb (s := ⟨zA, m.buf.length, zC⟩) (OwnE.far HZ.out (p := ⟨S20, 0, none⟩) (Nat.lt_succ_self _) (.int .i64 nv))
        exact ⟨(⟨⟨nv, r1, r2, r3, ⟨mA, m.st.mem.length, mC⟩, ⟨kA, m.st.stack.length, kC⟩, cpc⟩, ⟨zA, m.buf.length, zC⟩, ⟨qA, m.rsb.length, qC⟩, fin⟩ : Cnf), { m with st := { m.st with r0 := nv } }, ⟨⟨rfl, hz.st.r1, hz.st.r2, hz.st.r3, hz.st.mem, hz.st.stack, hz.st.pc⟩, hz.buf, hz.rsb, hz.fin⟩, heap_setCell_same wd S20 0 _ _ (.int .i64 nv) KZ.out, ⟨HN.out, C1.out.r1, C1.out.r2, C1.out.r3, C1.out.mem, C1.out.stk, C1.out.pc, C1.out.buf, C1.out.rsb, C1.out.fin, C1.out.ml, C1.out.sl, C1.out.bl, C1.out.rl⟩, hb⟩
      · have HN := Kept.mk (wrap64 (r1 + 1))
        generalize hv : IntKind.i64.wrap (r1 + 1) = nv at *
        go_wp2_with fail
        go_meet
        have hb := HB.out.setCell (p := ⟨S20, 1, none⟩) hSB (.int .i64 nv)
        have hz := zIs HM.out.cf hb (s := ⟨zA, m.buf.length, zC⟩) (OwnE.far HZ.out (p := ⟨S20, 1, none⟩) (Nat.lt_succ_self _) (.int .i64 nv))
        exact ⟨(⟨⟨r0, nv, r2, r3, ⟨mA, m.st.mem.length, mC⟩, ⟨kA, m.st.stack.length, kC⟩, cpc⟩, ⟨zA, m.buf.length, zC⟩, ⟨qA, m.rsb.length, qC⟩, fin⟩ : Cnf), { m with st := { m.st with r1 := nv } }, ⟨⟨hz.st.r0, rfl, hz.st.r2, hz.st.r3, hz.st.mem, hz.st.stack, hz.st.pc⟩, hz.buf, hz.rsb, hz.fin⟩, heap_setCell_same wd S20 1 _ _ (.int .i64 nv) KZ.out, ⟨C1.out.r0, HN.out, C1.out.r2, C1.out.r3, C1.out.mem, C1.out.stk, C1.out.pc, C1.out.buf, C1.out.rsb, C1.out.fin, C1.out.ml, C1.out.sl, C1.out.bl, C1.out.rl⟩, hb⟩
      · have HN := Kept.mk (wrap64 (r2 + 1))
        generalize hv : IntKind.i64.wrap (r2 + 1) = nv at *
        go_wp2_with fail
        go_meet
        have hb := HB.out.setCell (p := ⟨S20, 2, none⟩) hSB (.int .i64 nv)
        have hz := zIs HM.out.cf hb (s := ⟨zA, m.buf.length, zC⟩) (OwnE.far HZ.out (p := ⟨S20, 2, none⟩) (Nat.lt_succ_self _) (.int .i64 nv))
        exact ⟨(⟨⟨r0, r1, nv, r3, ⟨mA, m.st.mem.length, mC⟩, ⟨kA, m.st.stack.length, kC⟩, cpc⟩, ⟨zA, m.buf.length, zC⟩, ⟨qA, m.rsb.length, qC⟩, fin⟩ : Cnf), { m with st := { m.st with r2 := nv } }, ⟨⟨hz.st.r0, hz.st.r1, rfl, hz.st.r3, hz.st.mem, hz.st.stack, hz.st.pc⟩, hz.buf, hz.rsb, hz.fin⟩, heap_setCell_same wd S20 2 _ _ (.int .i64 nv) KZ.out, ⟨C1.out.r0, C1.out.r1, HN.out, C1.out.r3, C1.out.mem, C1.out.stk, C1.out.pc, C1.out.buf, C1.out.rsb, C1.out.fin, C1.out.ml, C1.out.sl, C1.out.bl, C1.out.rl⟩, hb⟩
      · have HN := Kept.mk (wrap64 (r3 + 1))
        generalize hv : IntKind.i64.wrap (r3 + 1) = nv at *
        go_wp2_with fail
        go_meet
        have hb := HB.out.setCell (p := ⟨S20, 3, none⟩) hSB (.int .i64 nv)
        have hz := zIs HM.out.cf hb (s := ⟨zA, m.buf.length, zC⟩) (OwnE.far HZ.out (p := ⟨S20, 3, none⟩) (Nat.lt_succ_self _) (.int .i64 nv))
        exact ⟨(⟨⟨r0, r1, r2, nv, ⟨mA, m.st.mem.length, mC⟩, ⟨kA, m.st.stack.length, kC⟩, cpc⟩, ⟨zA, m.buf.length, zC⟩, ⟨qA, m.rsb.length, qC⟩, fin⟩ : Cnf), { m with st := { m.st with r3 := nv } }, ⟨⟨hz.st.r0, hz.st.r1, hz.st.r2, rfl, hz.st.mem, hz.st.stack, hz.st.pc⟩, hz.buf, hz.rsb, hz.fin⟩, heap_setCell_same wd S20 3 _ _ (.int .i64 nv) KZ.out, ⟨C1.out.r0, C1.out.r1, C1.out.r2, HN.out, C1.out.mem, C1.out.stk, C1.out.pc, C1.out.buf, C1.out.rsb, C1.out.fin, C1.out.ml, C1.out.sl, C1.out.bl, C1.out.rl⟩, hb⟩
    · have e0 : (M7 == 0) = false := by rw [beq_eq_false_iff_ne]; omega
      have e1 : (M7 == 1) = false := by rw [beq_eq_false_iff_ne]; omega
      have e2 : (M7 == 2) = false := by rw [beq_eq_false_iff_ne]; omega
      have e3 : (M7 == 3) = false := by rw [beq_eq_false_iff_ne]; omega
      clear h4
      by_cases hn : m.buf.length = 0
      · have hn0 : ¬ (0 : Int) < (m.buf.length : Int) := by omega
        clear hn
        go_wp2_with fail
        go_meet
        exact ⟨(⟨⟨r0, r1, r2, r3, ⟨mA, m.st.mem.length, mC⟩, ⟨kA, m.st.stack.length, kC⟩, cpc⟩, ⟨zA, m.buf.length, zC⟩, ⟨qA, m.rsb.length, qC⟩, fin⟩ : Cnf), m, HC0.out, KZ.out, C1.out, HB.out⟩
      · have hn0 : (0 : Int) < (m.buf.length : Int) := by omega
        have hn1 : ¬ (m.buf.length : Int) = 0 := by omega
        obtain ⟨K, hK, hK1⟩ : ∃ K : Nat, Mb % (m.buf.length : Int) = K ∧ K < m.buf.length := ⟨(Mb % (m.buf.length : Int)).toNat, by have := Int.emod_nonneg Mb (show (m.buf.length : Int) ≠ 0 by omega); omega, by have := Int.emod_lt_of_pos Mb (show (0 : Int) < (m.buf.length : Int) by omega); have := Int.emod_nonneg Mb (show (m.buf.length : Int) ≠ 0 by omega); omega⟩
        obtain ⟨g, rfl, hgB, hgs, -, -⟩ := OwnE.elem HZ.out hK1
        have hKi : (K : Int) < (m.buf.length : Int) := by omega
        go_upto_region 9 with (fail)
        go_quiet (fail)
        have bq := below_drewN (Below.refl wd.heap.size wd) nq
        generalize wd.drewN nq = we at *
        have KZ := Kept.mk (heap_keep KZ.out bq)
        have HZ := Kept.mk (HZ.out.past bq)
        have HB := Kept.mk (HB.out.trans (bq.mono HB.out.size))
        clear bq YZ FZ YC hgs
        obtain ⟨g2, e2', -, -, EA, hfa⟩ := OwnE.elem HZ.out hK1
        injection e2' with e2'
        injection e2' with e2' e3' e4'
        subst e2'
        clear e3' e4'
        have hgS : g ≠ S20 := by omega
        have HE := Kept.mk (C1.out.buf m.buf[K] (List.getElem_mem hK1))
        have HOS := Kept.mk (fun (f : Nat) (u : Value) (e' : Ent) (hf : f < 8) (he : e'.cs = m.buf[K].cs.set f u) => OwnE.setAt HZ.out rfl hK1 hf he)
        have HCB := Kept.mk (fun (e' : Ent) (he : E64 e') => (fun e hm => by
          rcases List.mem_or_eq_of_mem_set hm with h | rfl
          · exact C1.out.buf e h
          · exact he : ∀ e ∈ m.buf.set K e', E64 e))
        have hls : ∀ e' : Ent, (m.buf.set K e').length = m.buf.length := fun e' => List.length_set ..
        have HLS := Kept.mk hls
        generalize hee : m.buf[K] = e at *
        obtain ⟨q0, q1, q2, q3, q4, q5, q6, q7⟩ := EA
        clear hn hls hee
        have f1 := hfa (K * 8 + 1)
        have f2 := hfa (K * 8 + 2)
        have f3 := hfa (K * 8 + 3)
        have f4 := hfa (K * 8 + 4)
        have f5 := hfa (K * 8 + 5)
        have f6 := hfa (K * 8 + 6)
        have hoj : Mj = 0 ∨ Mj = 1 ∨ Mj = 2 ∨ Mj = 3 ∨ Mj = 4 ∨ 5 ≤ Mj := by omega
        rcases hoj with rfl | rfl | rfl | rfl | rfl | h5
        · have HN := Kept.mk (wrap64 (e.val + 1))
          generalize hv : IntKind.i64.wrap (e.val + 1) = nv at *
          go_wp2_with fail
          go_meet
          have hb := HB.out.setCell (p := ⟨g, K * 8 + 1, none⟩) (show w12.heap.size ≤ g by omega) (.int .i64 nv)
          have hz := zIs HM.out.cf hb (s := ⟨some ⟨g, 0, none⟩, m.buf.length, zC⟩) (HOS.out 1 (.int .i64 nv) { e with val := nv } (by decide) rfl)
          exact ⟨(⟨⟨r0, r1, r2, r3, ⟨mA, m.st.mem.length, mC⟩, ⟨kA, m.st.stack.length, kC⟩, cpc⟩, ⟨some ⟨g, 0, none⟩, m.buf.length, zC⟩, ⟨qA, m.rsb.length, qC⟩, fin⟩ : Cnf), { m with buf := m.buf.set K { e with val := nv } }, hz, heap_set_far KZ.out hgS, ⟨C1.out.r0, C1.out.r1, C1.out.r2, C1.out.r3, C1.out.mem, C1.out.stk, C1.out.pc, HCB.out _ ⟨HE.out.pc, HN.out, HE.out.addr, HE.out.frm, HE.out.next⟩, C1.out.rsb, C1.out.fin, C1.out.ml, C1.out.sl, (by show (m.buf.set K _).length ≤ 1000; rw [HLS.out]; exact C1.out.bl), C1.out.rl⟩, hb⟩
        · go_wp2_with fail
          go_meet
          have hb := HB.out.setCell (p := ⟨g, K * 8 + 5, none⟩) (show w12.heap.size ≤ g by omega) (.bool (!e.done))
          have hz := zIs HM.out.cf hb (s := ⟨some ⟨g, 0, none⟩, m.buf.length, zC⟩) (HOS.out 5 (.bool (!e.done)) { e with done := !e.done } (by decide) rfl)
          exact ⟨(⟨⟨r0, r1, r2, r3, ⟨mA, m.st.mem.length, mC⟩, ⟨kA, m.st.stack.length, kC⟩, cpc⟩, ⟨some ⟨g, 0, none⟩, m.buf.length, zC⟩, ⟨qA, m.rsb.length, qC⟩, fin⟩ : Cnf), { m with buf := m.buf.set K { e with done := !e.done } }, hz, heap_set_far KZ.out hgS, ⟨C1.out.r0, C1.out.r1, C1.out.r2, C1.out.r3, C1.out.mem, C1.out.stk, C1.out.pc, HCB.out _ ⟨HE.out.pc, HE.out.val, HE.out.addr, HE.out.frm, HE.out.next⟩, C1.out.rsb, C1.out.fin, C1.out.ml, C1.out.sl, (by show (m.buf.set K _).length ≤ 1000; rw [HLS.out]; exact C1.out.bl), C1.out.rl⟩, hb⟩
        · have HN := Kept.mk (wrap64 (e.frm + 1))
          generalize hv : IntKind.i64.wrap (e.frm + 1) = nv at *
          go_wp2_with fail
          go_meet
          have hb := HB.out.setCell (p := ⟨g, K * 8 + 3, none⟩) (show w12.heap.size ≤ g by omega) (.int .i64 nv)
          have hz := zIs HM.out.cf hb (s := ⟨some ⟨g, 0, none⟩, m.buf.length, zC⟩) (HOS.out 3 (.int .i64 nv) { e with frm := nv } (by decide) rfl)
          exact ⟨(⟨⟨r0, r1, r2, r3, ⟨mA, m.st.mem.length, mC⟩, ⟨kA, m.st.stack.length, kC⟩, cpc⟩, ⟨some ⟨g, 0, none⟩, m.buf.length, zC⟩, ⟨qA, m.rsb.length, qC⟩, fin⟩ : Cnf), { m with buf := m.buf.set K { e with frm := nv } }, hz, heap_set_far KZ.out hgS, ⟨C1.out.r0, C1.out.r1, C1.out.r2, C1.out.r3, C1.out.mem, C1.out.stk, C1.out.pc, HCB.out _ ⟨HE.out.pc, HE.out.val, HE.out.addr, HN.out, HE.out.next⟩, C1.out.rsb, C1.out.fin, C1.out.ml, C1.out.sl, (by show (m.buf.set K _).length ≤ 1000; rw [HLS.out]; exact C1.out.bl), C1.out.rl⟩, hb⟩
        · have HN := Kept.mk (wrap64 (e.next + 1))
          generalize hv : IntKind.i64.wrap (e.next + 1) = nv at *
          go_wp2_with fail
          go_meet
          have hb := HB.out.setCell (p := ⟨g, K * 8 + 4, none⟩) (show w12.heap.size ≤ g by omega) (.int .i64 nv)
          have hz := zIs HM.out.cf hb (s := ⟨some ⟨g, 0, none⟩, m.buf.length, zC⟩) (HOS.out 4 (.int .i64 nv) { e with next := nv } (by decide) rfl)
          exact ⟨(⟨⟨r0, r1, r2, r3, ⟨mA, m.st.mem.length, mC⟩, ⟨kA, m.st.stack.length, kC⟩, cpc⟩, ⟨some ⟨g, 0, none⟩, m.buf.length, zC⟩, ⟨qA, m.rsb.length, qC⟩, fin⟩ : Cnf), { m with buf := m.buf.set K { e with next := nv } }, hz, heap_set_far KZ.out hgS, ⟨C1.out.r0, C1.out.r1, C1.out.r2, C1.out.r3, C1.out.mem, C1.out.stk, C1.out.pc, HCB.out _ ⟨HE.out.pc, HE.out.val, HE.out.addr, HE.out.frm, HN.out⟩, C1.out.rsb, C1.out.fin, C1.out.ml, C1.out.sl, (by show (m.buf.set K _).length ≤ 1000; rw [HLS.out]; exact C1.out.bl), C1.out.rl⟩, hb⟩
        · go_wp2_with fail
          go_meet
          have hb := HB.out.setCell (p := ⟨g, K * 8 + 6, none⟩) (show w12.heap.size ≤ g by omega) (.bool (!e.known))
          have hz := zIs HM.out.cf hb (s := ⟨some ⟨g, 0, none⟩, m.buf.length, zC⟩) (HOS.out 6 (.bool (!e.known)) { e with known := !e.known } (by decide) rfl)
          exact ⟨(⟨⟨r0, r1, r2, r3, ⟨mA, m.st.mem.length, mC⟩, ⟨kA, m.st.stack.length, kC⟩, cpc⟩, ⟨some ⟨g, 0, none⟩, m.buf.length, zC⟩, ⟨qA, m.rsb.length, qC⟩, fin⟩ : Cnf), { m with buf := m.buf.set K { e with known := !e.known } }, hz, heap_set_far KZ.out hgS, ⟨C1.out.r0, C1.out.r1, C1.out.r2, C1.out.r3, C1.out.mem, C1.out.stk, C1.out.pc, HCB.out _ ⟨HE.out.pc, HE.out.val, HE.out.addr, HE.out.frm, HE.out.next⟩, C1.out.rsb, C1.out.fin, C1.out.ml, C1.out.sl, (by show (m.buf.set K _).length ≤ 1000; rw [HLS.out]; exact C1.out.bl), C1.out.rl⟩, hb⟩
        · have j0 : (Mj == 0) = false := by rw [beq_eq_false_iff_ne]; omega
          have j1 : (Mj == 1) = false := by rw [beq_eq_false_iff_ne]; omega
          have j2 : (Mj == 2) = false := by rw [beq_eq_false_iff_ne]; omega
          have j3 : (Mj == 3) = false := by rw [beq_eq_false_iff_ne]; omega
          have j4 : (Mj == 4) = false := by rw [beq_eq_false_iff_ne]; omega
          clear h5
          have HN := Kept.mk (wrap64 (e.addr + 1))
          generalize hv : IntKind.i64.wrap (e.addr + 1) = nv at *
          go_wp2_with fail
          go_meet
          have hb := HB.out.setCell (p := ⟨g, K * 8 + 2, none⟩) (show w12.heap.size ≤ g by omega) (.int .i64 nv)
          have hz := zIs HM.out.cf hb (s := ⟨some ⟨g, 0, none⟩, m.buf.length, zC⟩) (HOS.out 2 (.int .i64 nv) { e with addr := nv } (by decide) rfl)
          exact ⟨(⟨⟨r0, r1, r2, r3, ⟨mA, m.st.mem.length, mC⟩, ⟨kA, m.st.stack.length, kC⟩, cpc⟩, ⟨some ⟨g, 0, none⟩, m.buf.length, zC⟩, ⟨qA, m.rsb.length, qC⟩, fin⟩ : Cnf), { m with buf := m.buf.set K { e with addr := nv } }, hz, heap_set_far KZ.out hgS, ⟨C1.out.r0, C1.out.r1, C1.out.r2, C1.out.r3, C1.out.mem, C1.out.stk, C1.out.pc, HCB.out _ ⟨HE.out.pc, HE.out.val, HN.out, HE.out.frm, HE.out.next⟩, C1.out.rsb, C1.out.fin, C1.out.ml, C1.out.sl, (by show (m.buf.set K _).length ≤ 1000; rw [HLS.out]; exact C1.out.bl), C1.out.rl⟩, hb⟩
  case rest =>
    obtain ⟨cz, mz, hcz, hxz, h64z, hbz⟩ := hcut
    obtain ⟨⟨k0, k1, k2, k3, ⟨kmA, kmN, kmC⟩, ⟨ksA, ksN, ksC⟩, kpc⟩, ⟨kbA, kbN, kbC⟩, ⟨kqA, kqN, kqC⟩, kf⟩ := cz
    have HZI := Kept.mk hcz
    have HZ64 := Kept.mk h64z
    have HBZ := Kept.mk hbz
    have Y18 := fun j => cell_of_row wc S18 j _ _ _ (heap_keep K18.out hbz)
    have Y20 := fun j => cell_of_row wc S20 j _ _ _ hxz
    have Y9 := fun j => cell_of_row wc w9.heap.size j _ _ _ (heap_keep XC.out hbz)
    simp only [Cnf.cs] at Y20
    clear hcz h64z hbz hxz YZ FZ YC HC0 KZ HZ HB
    go_upto_region 31 with (fail)
    have bX := below_alloc_self wc (.cells #[.int .i64 (y0), .int .i64 (y1), .int .i64 (y2), .int .i64 (y3), .slice ymA ymN ymC, .slice ysA ysN ysC, .int .i64 (ypc), .slice ybA ybN ybC, .slice yqA yqN yqC, .int .i64 (yf), .int .i64 (k0), .int .i64 (k1), .int .i64 (k2), .int .i64 (k3), .slice kmA kmN kmC, .slice ksA ksN ksC, .int .i64 (kpc), .slice kbA kbN kbC, .slice kqA kqN kqC, .int .i64 (kf), .int .i64 (r0), .int .i64 (r1), .int .i64 (r2), .int .i64 (r3), .slice mA m.st.mem.length mC, .slice kA m.st.stack.length kC, .int .i64 (cpc), .slice bA m.buf.length bC, .slice qA m.rsb.length qC, .int .i64 (fin)] 41)
    have XT := heap_alloc_new wc (.cells #[.int .i64 (y0), .int .i64 (y1), .int .i64 (y2), .int .i64 (y3), .slice ymA ymN ymC, .slice ysA ysN ysC, .int .i64 (ypc), .slice ybA ybN ybC, .slice yqA yqN yqC, .int .i64 (yf), .int .i64 (k0), .int .i64 (k1), .int .i64 (k2), .int .i64 (k3), .slice kmA kmN kmC, .slice ksA ksN ksC, .int .i64 (kpc), .slice kbA kbN kbC, .slice kqA kqN kqC, .int .i64 (kf), .int .i64 (r0), .int .i64 (r1), .int .i64 (r2), .int .i64 (r3), .slice mA m.st.mem.length mC, .slice kA m.st.stack.length kC, .int .i64 (cpc), .slice bA m.buf.length bC, .slice qA m.rsb.length qC, .int .i64 (fin)] 41)
    have HBT := Kept.mk (HBZ.out.trans (bX.mono HBZ.out.size))
    have HZI := Kept.mk (HZI.out.past bX)
    clear bX Y18 Y20 Y9
    generalize wc.alloc (.cells #[.int .i64 (y0), .int .i64 (y1), .int .i64 (y2), .int .i64 (y3), .slice ymA ymN ymC, .slice ysA ysN ysC, .int .i64 (ypc), .slice ybA ybN ybC, .slice yqA yqN yqC, .int .i64 (yf), .int .i64 (k0), .int .i64 (k1), .int .i64 (k2), .int .i64 (k3), .slice kmA kmN kmC, .slice ksA ksN ksC, .int .i64 (kpc), .slice kbA kbN kbC, .slice kqA kqN kqC, .int .i64 (kf), .int .i64 (r0), .int .i64 (r1), .int .i64 (r2), .int .i64 (r3), .slice mA m.st.mem.length mC, .slice kA m.st.stack.length kC, .int .i64 (cpc), .slice bA m.buf.length bC, .slice qA m.rsb.length qC, .int .i64 (fin)] 41) = wt at *
    obtain ⟨ST, hST⟩ : ∃ S, wc.heap.size = S := ⟨_, rfl⟩
    rw [hST] at XT ⊢
    clear hST
    have KT := Kept.mk XT
    clear XT
    have WT := Kept.mk (W11.out.trans (HBT.out.mono W11.out.size))
    go_loopw [160] (fun iv wr => ∃ k : Nat, k ≤ 3 ∧ iv = .int .i64 ((k : Nat) : Int) ∧ Below wt.heap.size wt wr) (fun iv _ => 3 - (intOf iv).toNat)
    case atStart => exact ⟨0, by omega, rfl, Below.refl _ _⟩
    case round =>
      obtain ⟨k, hk, rfl, hbr⟩ := hrel
      have HBR := Kept.mk hbr
      by_cases hlt : k < 3
      · have hki : (k : Int) < 3 := by omega
        have wk1 : IntKind.i64.wrap ((k : Int) + 1) = (k : Int) + 1 := IntWalk.i64_in _ (by omega)
        have hrow : ∃ (cu : Cnf) (mu : Conf), CfIs wr cu mu ∧ C64 mu ∧ (∀ j u, cu.cs[j]? = some u → wr.cell? ⟨ST, k * 10 + j, none⟩ = some u) := by
          have hX := heap_keep KT.out hbr
          have : k = 0 ∨ k = 1 ∨ k = 2 := by omega
          rcases this with rfl | rfl | rfl
          · exact ⟨(⟨⟨y0, y1, y2, y3, ⟨ymA, ymN, ymC⟩, ⟨ysA, ysN, ysC⟩, ypc⟩, ⟨ybA, ybN, ybC⟩, ⟨yqA, yqN, yqC⟩, yf⟩ : Cnf), m2, ((HM2.out.past HBT.out).past hbr).cf, C2.out, fun j u hu => (cell_of_row wr ST (0 * 10 + j) _ _ _ hX).trans (row30_0 (⟨⟨y0, y1, y2, y3, ⟨ymA, ymN, ymC⟩, ⟨ysA, ysN, ysC⟩, ypc⟩, ⟨ybA, ybN, ybC⟩, ⟨yqA, yqN, yqC⟩, yf⟩ : Cnf) (⟨⟨k0, k1, k2, k3, ⟨kmA, kmN, kmC⟩, ⟨ksA, ksN, ksC⟩, kpc⟩, ⟨kbA, kbN, kbC⟩, ⟨kqA, kqN, kqC⟩, kf⟩ : Cnf) (⟨⟨r0, r1, r2, r3, ⟨mA, m.st.mem.length, mC⟩, ⟨kA, m.st.stack.length, kC⟩, cpc⟩, ⟨bA, m.buf.length, bC⟩, ⟨qA, m.rsb.length, qC⟩, fin⟩ : Cnf) hu)⟩
          · exact ⟨(⟨⟨k0, k1, k2, k3, ⟨kmA, kmN, kmC⟩, ⟨ksA, ksN, ksC⟩, kpc⟩, ⟨kbA, kbN, kbC⟩, ⟨kqA, kqN, kqC⟩, kf⟩ : Cnf), mz, HZI.out.past hbr, HZ64.out, fun j u hu => (cell_of_row wr ST (1 * 10 + j) _ _ _ hX).trans (row30_1 (⟨⟨y0, y1, y2, y3, ⟨ymA, ymN, ymC⟩, ⟨ysA, ysN, ysC⟩, ypc⟩, ⟨ybA, ybN, ybC⟩, ⟨yqA, yqN, yqC⟩, yf⟩ : Cnf) (⟨⟨k0, k1, k2, k3, ⟨kmA, kmN, kmC⟩, ⟨ksA, ksN, ksC⟩, kpc⟩, ⟨kbA, kbN, kbC⟩, ⟨kqA, kqN, kqC⟩, kf⟩ : Cnf) (⟨⟨r0, r1, r2, r3, ⟨mA, m.st.mem.length, mC⟩, ⟨kA, m.st.stack.length, kC⟩, cpc⟩, ⟨bA, m.buf.length, bC⟩, ⟨qA, m.rsb.length, qC⟩, fin⟩ : Cnf) hu)⟩
          · exact ⟨(⟨⟨r0, r1, r2, r3, ⟨mA, m.st.mem.length, mC⟩, ⟨kA, m.st.stack.length, kC⟩, cpc⟩, ⟨bA, m.buf.length, bC⟩, ⟨qA, m.rsb.length, qC⟩, fin⟩ : Cnf), m, ((HM.out.past HBT.out).past hbr).cf, C1.out, fun j u hu => (cell_of_row wr ST (2 * 10 + j) _ _ _ hX).trans (row30_2 (⟨⟨y0, y1, y2, y3, ⟨ymA, ymN, ymC⟩, ⟨ysA, ysN, ysC⟩, ypc⟩, ⟨ybA, ybN, ybC⟩, ⟨yqA, yqN, yqC⟩, yf⟩ : Cnf) (⟨⟨k0, k1, k2, k3, ⟨kmA, kmN, kmC⟩, ⟨ksA, ksN, ksC⟩, kpc⟩, ⟨kbA, kbN, kbC⟩, ⟨kqA, kqN, kqC⟩, kf⟩ : Cnf) (⟨⟨r0, r1, r2, r3, ⟨mA, m.st.mem.length, mC⟩, ⟨kA, m.st.stack.length, kC⟩, cpc⟩, ⟨bA, m.buf.length, bC⟩, ⟨qA, m.rsb.length, qC⟩, fin⟩ : Cnf) hu)⟩
        obtain ⟨cu, mu, hcu, h64u, hcells⟩ := hrow
        obtain ⟨⟨u0, u1, u2, u3, ⟨umA, umN, umC⟩, ⟨usA, usN, usC⟩, upc⟩, ⟨ubA, ubN, ubC⟩, ⟨uqA, uqN, uqC⟩, uf⟩ := cu
        have c0 : wr.cell? ⟨ST, k * 10, none⟩ = some (.int .i64 u0) := hcells 0 _ rfl
        have c1 := hcells 1 _ rfl
        have c2' := hcells 2 _ rfl
        have c3' := hcells 3 _ rfl
        have c4' := hcells 4 _ rfl
        have c5' := hcells 5 _ rfl
        have c6 := hcells 6 _ rfl
        have c7 := hcells 7 _ rfl
        have c8 := hcells 8 _ rfl
        have c9 := hcells 9 _ rfl
        have HU := Kept.mk hcu
        have HU64 := Kept.mk h64u
        clear hcells hcu h64u hbr
        go_upto_region 33 with (fail)
        have bX := below_alloc_self wr (.cells #[.int .i64 (u0), .int .i64 (u1), .int .i64 (u2), .int .i64 (u3), .slice umA umN umC, .slice usA usN usC, .int .i64 (upc), .slice ubA ubN ubC, .slice uqA uqN uqC, .int .i64 (uf)] 41)
        have X23 := heap_alloc_new wr (.cells #[.int .i64 (u0), .int .i64 (u1), .int .i64 (u2), .int .i64 (u3), .slice umA umN umC, .slice usA usN usC, .int .i64 (upc), .slice ubA ubN ubC, .slice uqA uqN uqC, .int .i64 (uf)] 41)
        have HU := Kept.mk (HU.out.past bX)
        have HBR := Kept.mk (HBR.out.trans (bX.mono HBR.out.size))
        clear bX c0 c1 c2' c3' c4' c5' c6 c7 c8 c9
        generalize wr.alloc (.cells #[.int .i64 (u0), .int .i64 (u1), .int .i64 (u2), .int .i64 (u3), .slice umA umN umC, .slice usA usN usC, .int .i64 (upc), .slice ubA ubN ubC, .slice uqA uqN uqC, .int .i64 (uf)] 41) = wu at *
        obtain ⟨S23, hS23⟩ : ∃ S, wr.heap.size = S := ⟨_, rfl⟩
        rw [hS23] at X23 ⊢
        clear hS23
        have hbu := HBT.out.trans (HBR.out.mono HBT.out.size)
        have XKU : Kept (∀ w1, Below wu.heap.size wu w1 → CellsAt w1 S23 0 [.int .i64 (u0), .int .i64 (u1), .int .i64 (u2), .int .i64 (u3), .slice umA umN umC, .slice usA usN usC, .int .i64 (upc), .slice ubA ubN ubC, .slice uqA uqN uqC, .int .i64 (uf)]) := ⟨fun w1 hb => CellsAt.of_block (heap_keep X23 hb)⟩
        have XKC : Kept (∀ w1, Below wu.heap.size wu w1 → CellsAt w1 w9.heap.size 0 [.int .i64 (r0), .int .i64 (r1), .int .i64 (r2), .int .i64 (r3), .slice mA m.st.mem.length mC, .slice kA m.st.stack.length kC, .int .i64 (cpc), .slice bA m.buf.length bC, .slice qA m.rsb.length qC, .int .i64 (fin)]) := ⟨fun w1 hb => CellsAt.of_block (heap_keep (heap_keep XC.out hbu) hb)⟩
        have HMU := Kept.mk ((HM.out.past hbu).cf)
        have HCU : Kept (∀ w1, Below wu.heap.size wu w1 → Calls Try.prog 52 #[Cnf.v (⟨⟨u0, u1, u2, u3, ⟨umA, umN, umC⟩, ⟨usA, usN, usC⟩, upc⟩, ⟨ubA, ubN, ubC⟩, ⟨uqA, uqN, uqC⟩, uf⟩ : Cnf)] w1 (GivesB w1 (putL (cfInts mu)))) := ⟨fun w1 hb => conf_code (⟨⟨u0, u1, u2, u3, ⟨umA, umN, umC⟩, ⟨usA, usN, usC⟩, upc⟩, ⟨ubA, ubN, ubC⟩, ⟨uqA, uqN, uqC⟩, uf⟩ : Cnf) mu w1 (HU.out.past hb) HU64.out.ints (Nat.le_trans HU64.out.ml (by decide)) (Nat.le_trans HU64.out.sl (by decide)) (Nat.le_trans HU64.out.bl (by decide)) (Nat.le_trans HU64.out.rl (by decide))⟩
        have HCX : Kept (∀ w1, Below wu.heap.size wu w1 → Calls Try.prog 52 #[Cnf.v (⟨⟨r0, r1, r2, r3, ⟨mA, m.st.mem.length, mC⟩, ⟨kA, m.st.stack.length, kC⟩, cpc⟩, ⟨bA, m.buf.length, bC⟩, ⟨qA, m.rsb.length, qC⟩, fin⟩ : Cnf)] w1 (GivesB w1 (putL (cfInts m)))) := ⟨fun w1 hb => conf_code (⟨⟨r0, r1, r2, r3, ⟨mA, m.st.mem.length, mC⟩, ⟨kA, m.st.stack.length, kC⟩, cpc⟩, ⟨bA, m.buf.length, bC⟩, ⟨qA, m.rsb.length, qC⟩, fin⟩ : Cnf) m w1 (HMU.out.past hb) C1.out.ints (Nat.le_trans C1.out.ml (by decide)) (Nat.le_trans C1.out.sl (by decide)) (Nat.le_trans C1.out.bl (by decide)) (Nat.le_trans C1.out.rl (by decide))⟩
        have HSU : Kept (∀ w1, Below wu.heap.size wu w1 → Calls Try.prog 30 #[Cnf.v (⟨⟨u0, u1, u2, u3, ⟨umA, umN, umC⟩, ⟨usA, usN, usC⟩, upc⟩, ⟨ubA, ubN, ubC⟩, ⟨uqA, uqN, uqC⟩, uf⟩ : Cnf), Cnf.v (⟨⟨r0, r1, r2, r3, ⟨mA, m.st.mem.length, mC⟩, ⟨kA, m.st.stack.length, kC⟩, cpc⟩, ⟨bA, m.buf.length, bC⟩, ⟨qA, m.rsb.length, qC⟩, fin⟩ : Cnf)] w1 fun en w' => en = .returned (.bool (decide (mu = m))) ∧ Below w1.heap.size w1 w') := ⟨fun w1 hb => same9 (⟨⟨u0, u1, u2, u3, ⟨umA, umN, umC⟩, ⟨usA, usN, usC⟩, upc⟩, ⟨ubA, ubN, ubC⟩, ⟨uqA, uqN, uqC⟩, uf⟩ : Cnf) (⟨⟨r0, r1, r2, r3, ⟨mA, m.st.mem.length, mC⟩, ⟨kA, m.st.stack.length, kC⟩, cpc⟩, ⟨bA, m.buf.length, bC⟩, ⟨qA, m.rsb.length, qC⟩, fin⟩ : Cnf) mu m w1 (HU.out.past hb) (HMU.out.past hb) HU64.out.ml HU64.out.sl HU64.out.bl HU64.out.rl C1.out.ml C1.out.sl C1.out.bl C1.out.rl⟩
        have heqd : decide (putL (cfInts mu) = putL (cfInts m)) = decide (mu = m) := by
          by_cases h : mu = m
          · rw [h]; simp
          · rw [decide_eq_false h, decide_eq_false]
            exact fun e => h (cfInts_inj (putL_inj _ _ HU64.out.ints C1.out.ints e))
        have hnn : ((decide (mu = m)) != (decide (mu = m))) = false := by simp
        clear X23 hbu
        refine region_tell (wu.heap.size) (G := fun _ => True) (ts := [
            .is (Value.agg #[.int .i64 (u0), .int .i64 (u1), .int .i64 (u2), .int .i64 (u3), .slice umA umN umC, .slice usA usN usC, .int .i64 (upc), .slice ubA ubN ubC, .slice uqA uqN uqC, .int .i64 (uf)]),
            .makes (fun v w' => OwnB w' wu.heap.size v (putL (cfInts mu))),
            .is (.string ⟨(putL (cfInts mu)).toArray⟩),
            .is (Value.agg #[.int .i64 (r0), .int .i64 (r1), .int .i64 (r2), .int .i64 (r3), .slice mA m.st.mem.length mC, .slice kA m.st.stack.length kC, .int .i64 (cpc), .slice bA m.buf.length bC, .slice qA m.rsb.length qC, .int .i64 (fin)]),
            .makes (fun v w' => OwnB w' wu.heap.size v (putL (cfInts m))),
            .is (.string ⟨(putL (cfInts m)).toArray⟩),
            .is (.bool (decide (mu = m))),
            .is (Value.agg #[.int .i64 (u0), .int .i64 (u1), .int .i64 (u2), .int .i64 (u3), .slice umA umN umC, .slice usA usN usC, .int .i64 (upc), .slice ubA ubN ubC, .slice uqA uqN uqC, .int .i64 (uf)]),
            .is (Value.agg #[.int .i64 (r0), .int .i64 (r1), .int .i64 (r2), .int .i64 (r3), .slice mA m.st.mem.length mC, .slice kA m.st.stack.length kC, .int .i64 (cpc), .slice bA m.buf.length bC, .slice qA m.rsb.length qC, .int .i64 (fin)]),
            .draws (.bool (decide (mu = m))),
            .is (Value.bool false)])
          (fin := []) (cs := []) (by kernel_rfl) rfl (by kernel_rfl) (by kernel_rfl)
          ⟨trivial, (fun _ _ _ h hb => OwnB.past h hb), trivial, trivial, (fun _ _ _ h hb => OwnB.past h hb), trivial, trivial, trivial, trivial, trivial, trivial, trivial⟩ (fun _ _ _ _ => trivial) (by simp) (by simp) trivial
          ⟨?_, ?_, ?_, ?_, ?_, ?_, ?_, ?_, ?_, ?_, ?_, trivial⟩ ?_
        · intro vals w1 hB _ hd
          clear hd
          refine one_value (v := Value.agg #[.int .i64 (u0), .int .i64 (u1), .int .i64 (u2), .int .i64 (u3), .slice umA umN umC, .slice usA usN usC, .int .i64 (upc), .slice ubA ubN ubC, .slice uqA uqN uqC, .int .i64 (uf)]) rfl ?_ (post_is rfl)
          exact exec_load_row rfl (b := S23) (off := 0) (by kernel_rfl) [.int .i64 (u0), .int .i64 (u1), .int .i64 (u2), .int .i64 (u3), .slice umA umN umC, .slice usA usN usC, .int .i64 (upc), .slice ubA ubN ubC, .slice uqA uqN uqC, .int .i64 (uf)] (XKU.out w1 hB) Try.underlying41 rfl (by kernel_rfl)
        · intro vals w1 hB _ hd
          clear hd
          refine one_calls (f := 52) (args := #[.agg #[.int .i64 (u0), .int .i64 (u1), .int .i64 (u2), .int .i64 (u3), .slice umA umN umC, .slice usA usN usC, .int .i64 (upc), .slice ubA ubN ubC, .slice uqA uqN uqC, .int .i64 (uf)]]) (w1 := w1) rfl (by kernel_rfl) ?_
          refine (HCU.out w1 hB).mono ?_
          rintro e1 w3 ⟨v3, rfl, ho, hb⟩
          exact ⟨_, rfl, post_makes rfl (OwnB.lower ho hB.size) hb⟩
        · intro vals w1 hB _ hd
          have da : OwnB w1 wu.heap.size (vals 1) (putL (cfInts mu)) := hd 1 (by kernel_rfl)
          clear hd
          obtain ⟨A6, c6, e6, _, r6⟩ := OwnB.shape da
          refine one_value (v := .string ⟨(putL (cfInts mu)).toArray⟩) rfl ?_ (post_is rfl)
          rw [vals_at e6]
          have hst := run_string (w := w1) (c := c6) r6 rfl
          simp only [fillT, Tell.is, Tell.draws, Tell.makes, Tell.gets, Act.put, List.setIfInBounds_toArray, List.set_cons_zero, List.set_cons_succ]
          go_simp
        · intro vals w1 hB _ hd
          clear hd
          refine one_value (v := Value.agg #[.int .i64 (r0), .int .i64 (r1), .int .i64 (r2), .int .i64 (r3), .slice mA m.st.mem.length mC, .slice kA m.st.stack.length kC, .int .i64 (cpc), .slice bA m.buf.length bC, .slice qA m.rsb.length qC, .int .i64 (fin)]) rfl ?_ (post_is rfl)
          exact exec_load_row rfl (b := w9.heap.size) (off := 0) (by kernel_rfl) [.int .i64 (r0), .int .i64 (r1), .int .i64 (r2), .int .i64 (r3), .slice mA m.st.mem.length mC, .slice kA m.st.stack.length kC, .int .i64 (cpc), .slice bA m.buf.length bC, .slice qA m.rsb.length qC, .int .i64 (fin)] (XKC.out w1 hB) Try.underlying41 rfl (by kernel_rfl)
        · intro vals w1 hB _ hd
          clear hd
          refine one_calls (f := 52) (args := #[.agg #[.int .i64 (r0), .int .i64 (r1), .int .i64 (r2), .int .i64 (r3), .slice mA m.st.mem.length mC, .slice kA m.st.stack.length kC, .int .i64 (cpc), .slice bA m.buf.length bC, .slice qA m.rsb.length qC, .int .i64 (fin)]]) (w1 := w1) rfl (by kernel_rfl) ?_
          refine (HCX.out w1 hB).mono ?_
          rintro e1 w3 ⟨v3, rfl, ho, hb⟩
          exact ⟨_, rfl, post_makes rfl (OwnB.lower ho hB.size) hb⟩
        · intro vals w1 hB _ hd
          have da : OwnB w1 wu.heap.size (vals 4) (putL (cfInts m)) := hd 4 (by kernel_rfl)
          clear hd
          obtain ⟨A6, c6, e6, _, r6⟩ := OwnB.shape da
          refine one_value (v := .string ⟨(putL (cfInts m)).toArray⟩) rfl ?_ (post_is rfl)
          rw [vals_at e6]
          have hst := run_string (w := w1) (c := c6) r6 rfl
          simp only [fillT, Tell.is, Tell.draws, Tell.makes, Tell.gets, Act.put, List.setIfInBounds_toArray, List.set_cons_zero, List.set_cons_succ]
          go_simp
        · intro vals w1 hB _ hd
          clear hd
          refine one_value (v := .bool (decide (mu = m))) rfl ?_ (post_is rfl)
          refine Eq.trans (b := .ok (.value (.bool (((⟨(putL (cfInts mu)).toArray⟩ : ByteArray).toList == (⟨(putL (cfInts m)).toArray⟩ : ByteArray).toList)))) w1) (by kernel_rfl) ?_
          rw [str_eq, heqd]
        · intro vals w1 hB _ hd
          clear hd
          refine one_value (v := Value.agg #[.int .i64 (u0), .int .i64 (u1), .int .i64 (u2), .int .i64 (u3), .slice umA umN umC, .slice usA usN usC, .int .i64 (upc), .slice ubA ubN ubC, .slice uqA uqN uqC, .int .i64 (uf)]) rfl ?_ (post_is rfl)
          exact exec_load_row rfl (b := S23) (off := 0) (by kernel_rfl) [.int .i64 (u0), .int .i64 (u1), .int .i64 (u2), .int .i64 (u3), .slice umA umN umC, .slice usA usN usC, .int .i64 (upc), .slice ubA ubN ubC, .slice uqA uqN uqC, .int .i64 (uf)] (XKU.out w1 hB) Try.underlying41 rfl (by kernel_rfl)
        · intro vals w1 hB _ hd
          clear hd
          refine one_value (v := Value.agg #[.int .i64 (r0), .int .i64 (r1), .int .i64 (r2), .int .i64 (r3), .slice mA m.st.mem.length mC, .slice kA m.st.stack.length kC, .int .i64 (cpc), .slice bA m.buf.length bC, .slice qA m.rsb.length qC, .int .i64 (fin)]) rfl ?_ (post_is rfl)
          exact exec_load_row rfl (b := w9.heap.size) (off := 0) (by kernel_rfl) [.int .i64 (r0), .int .i64 (r1), .int .i64 (r2), .int .i64 (r3), .slice mA m.st.mem.length mC, .slice kA m.st.stack.length kC, .int .i64 (cpc), .slice bA m.buf.length bC, .slice qA m.rsb.length qC, .int .i64 (fin)] (XKC.out w1 hB) Try.underlying41 rfl (by kernel_rfl)
        · intro vals w1 hB _ hd
          clear hd
          refine one_calls (f := 30) (args := #[.agg #[.int .i64 (u0), .int .i64 (u1), .int .i64 (u2), .int .i64 (u3), .slice umA umN umC, .slice usA usN usC, .int .i64 (upc), .slice ubA ubN ubC, .slice uqA uqN uqC, .int .i64 (uf)], .agg #[.int .i64 (r0), .int .i64 (r1), .int .i64 (r2), .int .i64 (r3), .slice mA m.st.mem.length mC, .slice kA m.st.stack.length kC, .int .i64 (cpc), .slice bA m.buf.length bC, .slice qA m.rsb.length qC, .int .i64 (fin)]]) (w1 := w1) rfl (by kernel_rfl) ?_
          refine (HSU.out w1 hB).mono ?_
          rintro e1 w3 ⟨rfl, hb⟩
          exact ⟨_, rfl, post_draws rfl hb⟩
        · intro vals w1 hB _ hd
          clear hd
          refine one_value (v := Value.bool false) rfl ?_ (post_is rfl)
          exact Eq.trans (b := .ok (.value (.bool ((decide (mu = m)) != (decide (mu = m))))) w1) (by kernel_rfl) (by rw [hnn])
        intro vals w15 b15 _ hr
        clear hr
        simp only [fillT, Tell.is, Tell.draws, Tell.makes, Act.put, List.setIfInBounds_toArray, List.set_cons_zero, List.set_cons_succ]
        have HBR := Kept.mk (HBR.out.trans (b15.mono HBR.out.size))
        go_wp2_with fail
        go_roundw
        case rel => exact ⟨k + 1, by omega, by go_num, HBR.out⟩
        case measure => simp [intOf]; omega
      · have hki : ¬ (k : Int) < 3 := by omega
        go_wp2_with fail
        refine (HAW.out wr).mono ?_
        rintro en wq ⟨rfl, bq⟩
        have WQ := Kept.mk ((WT.out.trans (hbr.mono WT.out.size)).trans (bq.mono (Nat.le_trans WT.out.size hbr.size)))
        clear bq
        go_wp2_with fail
        go_ret
        exact ⟨rfl, WQ.out⟩

theorem cunl_law (A2 : Option Addr) (c2 : Nat) (mk : List Int) (A3 : Option Addr) (c3 : Nat) (l : List Int) (A4 : Option Addr) (c4 : Nat) (wk : List Int) (A5 : Option Addr) (c5 : Nat) (wb : List Int) (how tto : Int) (w : World) (_hc2 : mk.length ≤ c2) (_hm2 : c2 ≤ maxLen) (hr2 : RdI w A2 mk) (_ok2 : ∀ x ∈ mk, -9223372036854775808 ≤ x ∧ x ≤ 9223372036854775807) (_hc3 : l.length ≤ c3) (_hm3 : c3 ≤ maxLen) (hr3 : RdI w A3 l) (_ok3 : ∀ x ∈ l, -9223372036854775808 ≤ x ∧ x ≤ 9223372036854775807) (_hc4 : wk.length ≤ c4) (_hm4 : c4 ≤ maxLen) (hr4 : RdI w A4 wk) (_ok4 : ∀ x ∈ wk, -9223372036854775808 ≤ x ∧ x ≤ 9223372036854775807) (_hc5 : wb.length ≤ c5) (_hm5 : c5 ≤ maxLen) (hr5 : RdI w A5 wb) (_ok5 : ∀ x ∈ wb, -9223372036854775808 ≤ x ∧ x ≤ 9223372036854775807) (_hh : -9223372036854775808 ≤ how ∧ how ≤ 9223372036854775807) (hto : -9223372036854775808 ≤ tto ∧ tto ≤ 9223372036854775807) :
    Calls Try.prog 17 #[.slice A2 mk.length c2, .slice A3 l.length c3, .slice A4 wk.length c4, .slice A5 wb.length c5, .int .i64 how, .int .i64 tto] w (SaysTrue w) := cunl_walk A2 c2 mk A3 c3 l A4 c4 wk A5 c5 wb how tto w hr2 hr3 hr4 hr5 hto
end Go.Proofs.Ytchldbkjapnlcaa
