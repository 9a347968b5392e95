/- The law FetcOnly: to fetch turns nothing but what is under way, where to go on, and the return buffer. -/
import Derived.Test.YtchldbkjapnlcaaJt
import Derived.Test.YtchldbkjapnlcaaJo
import Derived.Test.YtchldbkjapnlcaaJq
import Derived.Test.YtchldbkjapnlcaaJl
import Derived.Test.YtchldbkjapnlcaaJs
import Derived.Test.YtchldbkjapnlcaaJForeg
import Derived.Deep.DeepCutAuto
set_option linter.unusedVariables false
set_option linter.unusedSimpArgs false
namespace Go.Proofs.Ytchldbkjapnlcaa
open Go.RowKit

/-- What is told of a machine that has fetched. -/
structure FOnly (win : Int) (il : List Inst) (m : Conf) (g : Int) : Prop where
  q : fetchQ win il m g = some (fetchOf il m g)
  b : (fetchOf il m g).buf = m.buf ++ [(fetchEnt il m g).1]
  p : (fetchEnt il m g).1.pc = m.st.pc
  x : (fetchEnt il m g).1.next = (fetchOf il m g).st.pc
  f : (fetchOf il m g).fin = 0
  l : ((some (fetchOf il m g)).getD Conf.zero).rsb.length ≤ 2
  w : (m.buf.length : Int) + 1 ≤ win
  r : { fetchOf il m g with buf := m.buf, rsb := m.rsb, st := { (fetchOf il m g).st with pc := m.st.pc } } = m
theorem fonly {W win : Int} {il : List Inst} {L k : Nat} {m : Conf} (hP : ProgOk W win il) (h : Inv win il L k m) (g : Int) (h0 : 0 ≤ g) (h1 : g < guessesOf win il m) : FOnly win il m g := by
  obtain ⟨e1, e2, e3, e4, e5, e6⟩ := fetchEnt_ok hP h g h0 h1
  obtain ⟨f1, f2, f3, f4⟩ := guesses_pos h0 h1
  exact ⟨by unfold fetchQ; rw [if_pos ⟨h0, h1⟩], rfl, e5, rfl, f1, e3, by omega, rfl⟩
theorem guesses_zero {win : Int} {il : List Inst} {m : Conf} (hb : (m.buf.length : Int) ≤ win) : guessesOf win il m = 0 ↔ m.fin ≠ 0 ∨ m.st.pc = -1 ∨ (m.buf.length : Int) = win := by
  unfold guessesOf
  split
  · rename_i h
    exact ⟨fun _ => by omega, fun _ => rfl⟩
  · rename_i h
    simp only [not_or] at h
    refine ⟨fun h0 => ?_, fun h0 => by omega⟩
    split at h0
    · omega
    · split at h0 <;> omega
theorem heap_cell {w w' : World} {p : Addr} (hb : Below w.heap.size w w') (hp : p.block < w.heap.size) : w'.cell? p = w.cell? p := hb.cell hp
set_option maxRecDepth 100000 in
set_option maxHeartbeats 2000000 in
theorem fonly_walk (A2 : Option Addr) (c2 : Nat) (mk : List Int) (A3 : Option Addr) (c3 : Nat) (l : List Int) (A4 : Option Addr) (c4 : Nat) (wk : List Int) (w : World) (hr2 : RdI w A2 mk) (hr3 : RdI w A3 l) (hr4 : RdI w A4 wk) :
    Calls Try.prog 10 #[.slice A2 mk.length c2, .slice A3 l.length c3, .slice A4 wk.length c4] w (SaysTrue w) := by
  have HR2 := Kept.mk hr2
  have HR3 := Kept.mk hr3
  have HR4 := Kept.mk hr4
  clear hr2 hr3 hr4
  go_enter Try.func10, Try.ntmps10
  go_wp2_with fail
  refine (make_at A2 mk mk.length c2 w rfl HR2.out).mono ?_
  rintro en w6 ⟨p, il, ml, rfl, hmk, b6⟩
  have W6 := Kept.mk b6
  obtain ⟨pmA, pmC, hpm, -, -⟩ := hmk.mem
  obtain ⟨plA, plN, plC, hpl⟩ := hmk.lab
  obtain ⟨pW, pwin, pfuel, pr0, pr1, pr2, pr3, pmems, plabels, pA, pN, pC⟩ := p
  simp only at hpm hpl
  subst hpm hpl
  have HMK := Kept.mk hmk
  clear hmk b6
  obtain ⟨HPM, hPM⟩ : ∃ x : Kept (ProgOk pW pwin il), x = x := ⟨⟨make_prog HMK.out⟩, rfl⟩
  clear hPM
  go_wp2_with fail
  have ba := below_alloc_self w6 (.cells (Prg.cs (⟨pW, pwin, pfuel, pr0, pr1, pr2, pr3, .slice pmA ml.length pmC, .slice plA plN plC, pA, pN, pC⟩ : Prg)).toArray 33)
  refine (states_mach (⟨pW, pwin, pfuel, pr0, pr1, pr2, pr3, .slice pmA ml.length pmC, .slice plA plN plC, pA, pN, pC⟩ : Prg) il ml A3 l l.length c3 (w6.alloc (.cells (Prg.cs (⟨pW, pwin, pfuel, pr0, pr1, pr2, pr3, .slice pmA ml.length pmC, .slice plA plN plC, pA, pN, pC⟩ : Prg)).toArray 33)) rfl (HMK.out.past ba) (HR3.out.past (W6.out.trans (ba.mono W6.out.size)))).mono ?_
  rintro en w7 ⟨s, t, ms, mt, rfl, hs, ht, b7⟩
  have XP := Kept.mk (heap_keep (heap_alloc_new w6 (.cells (Prg.cs (⟨pW, pwin, pfuel, pr0, pr1, pr2, pr3, .slice pmA ml.length pmC, .slice plA plN plC, pA, pN, pC⟩ : Prg)).toArray 33)) b7)
  have W7 := Kept.mk ((W6.out.trans (ba.mono W6.out.size)).trans (b7.mono (by have := W6.out.size; simp; omega)))
  have HMK := Kept.mk ((HMK.out.past ba).past b7)
  have HS := Kept.mk hs
  have HT := Kept.mk ht
  clear hs ht b7 ba
  obtain ⟨s0, s1, s2, s3, ⟨sA, sN, sC⟩, ⟨uA, uN, uC⟩, s6⟩ := s
  obtain ⟨t0, t1, t2, t3, ⟨tA, tN, tC⟩, ⟨vA, vN, vC⟩, t6⟩ := t
  go_upto_region 3 with (fail)
  have bb := (below_alloc_self w7 (.cells #[.int .i64 s0, .int .i64 s1, .int .i64 s2, .int .i64 s3, .slice sA sN sC, .slice uA uN uC, .int .i64 s6] 36)).alloc (by simp) (.cells #[.int .i64 t0, .int .i64 t1, .int .i64 t2, .int .i64 t3, .slice tA tN tC, .slice vA vN vC, .int .i64 t6] 36)
  have XS := Kept.mk ((heap_alloc_old _ _ (by simp)).trans (heap_alloc_new w7 (.cells #[.int .i64 s0, .int .i64 s1, .int .i64 s2, .int .i64 s3, .slice sA sN sC, .slice uA uN uC, .int .i64 s6] 36)) : ((w7.alloc (.cells #[.int .i64 s0, .int .i64 s1, .int .i64 s2, .int .i64 s3, .slice sA sN sC, .slice uA uN uC, .int .i64 s6] 36)).alloc (.cells #[.int .i64 t0, .int .i64 t1, .int .i64 t2, .int .i64 t3, .slice tA tN tC, .slice vA vN vC, .int .i64 t6] 36)).heap[w7.heap.size]? = some (.cells #[.int .i64 s0, .int .i64 s1, .int .i64 s2, .int .i64 s3, .slice sA sN sC, .slice uA uN uC, .int .i64 s6] 36))
  have XT := Kept.mk (heap_alloc2_new w7 (.cells #[.int .i64 s0, .int .i64 s1, .int .i64 s2, .int .i64 s3, .slice sA sN sC, .slice uA uN uC, .int .i64 s6] 36) (.cells #[.int .i64 t0, .int .i64 t1, .int .i64 t2, .int .i64 t3, .slice tA tN tC, .slice vA vN vC, .int .i64 t6] 36))
  have XP := Kept.mk (heap_keep XP.out bb)
  have W8 := Kept.mk (W7.out.trans (bb.mono W7.out.size))
  have HMK := Kept.mk (HMK.out.past bb)
  have HS := Kept.mk (HS.out.past bb)
  have HT := Kept.mk (HT.out.past bb)
  clear bb
  generalize (w7.alloc (.cells #[.int .i64 s0, .int .i64 s1, .int .i64 s2, .int .i64 s3, .slice sA sN sC, .slice uA uN uC, .int .i64 s6] 36)).alloc (.cells #[.int .i64 t0, .int .i64 t1, .int .i64 t2, .int .i64 t3, .slice tA tN tC, .slice vA vN vC, .int .i64 t6] 36) = w8 at *
  have Y6 := fun j => cell_of_row w8 w6.heap.size j _ _ _ XP.out
  have Y7 := fun j => cell_of_row w8 w7.heap.size j _ _ _ XS.out
  simp only [Prg.cs] at Y6
  go_wp2_with fail
  refine (walk_mach (⟨pW, pwin, pfuel, pr0, pr1, pr2, pr3, .slice pmA ml.length pmC, .slice plA plN plC, pA, pN, pC⟩ : Prg) il ml ⟨s0, s1, s2, s3, ⟨sA, sN, sC⟩, ⟨uA, uN, uC⟩, s6⟩ ms A4 wk wk.length c4 w8 rfl HMK.out HS.out (HR4.out.past W8.out)).mono ?_
  rintro en w9 ⟨c, m, dv, out, k, rfl, hm, hd, _, b9⟩
  obtain ⟨dA, dC, rfl, -, -⟩ := hd.shape
  have W9 := Kept.mk (W8.out.trans (b9.mono W8.out.size))
  have XP := Kept.mk (heap_keep XP.out b9)
  have HM := Kept.mk hm
  clear hd b9 hm Y6 Y7 HS HMK XS HT XT
  obtain ⟨⟨r0, r1, r2, r3, ⟨mA, mN, mC⟩, ⟨kA, kN, kC⟩, cpc⟩, ⟨bA, bN, bC⟩, ⟨qA, qN, qC⟩, fin⟩ := c
  have hbn : bN = m.buf.length := HM.out.cf.buf.n
  have hkn : kN = m.st.stack.length := HM.out.cf.st.stack.n
  have hmn : mN = m.st.mem.length := HM.out.cf.st.mem.n
  have hqn : qN = m.rsb.length := HM.out.cf.rsb.n
  subst hbn hkn hmn hqn
  have HF := Kept.mk (inv_fit HM.out.ok HM.out.inv (Nat.le_trans HM.out.kl (by decide)) HM.out.ll)
  go_upto_region 4 with (fail)
  have bc := below_alloc_self w9 (.cells #[.int .i64 r0, .int .i64 r1, .int .i64 r2, .int .i64 r3, .slice mA m.st.mem.length mC, .slice kA m.st.stack.length kC, .int .i64 cpc, .slice bA m.buf.length bC, .slice qA m.rsb.length qC, .int .i64 fin] 41)
  have XC := Kept.mk (heap_alloc_new w9 (.cells #[.int .i64 r0, .int .i64 r1, .int .i64 r2, .int .i64 r3, .slice mA m.st.mem.length mC, .slice kA m.st.stack.length kC, .int .i64 cpc, .slice bA m.buf.length bC, .slice qA m.rsb.length qC, .int .i64 fin] 41))
  have XP := Kept.mk (heap_keep XP.out bc)
  have W10 := Kept.mk (W9.out.trans (bc.mono W9.out.size))
  have HM := Kept.mk (HM.out.past bc)
  clear bc
  generalize w9.alloc (.cells #[.int .i64 r0, .int .i64 r1, .int .i64 r2, .int .i64 r3, .slice mA m.st.mem.length mC, .slice kA m.st.stack.length kC, .int .i64 cpc, .slice bA m.buf.length bC, .slice qA m.rsb.length qC, .int .i64 fin] 41) = w10 at *
  have HGP := Kept.mk (fun w1 (hb : Below w10.heap.size w10 w1) => pguesses_any (⟨pW, pwin, pfuel, pr0, pr1, pr2, pr3, .slice pmA ml.length pmC, .slice plA plN plC, pA, pN, pC⟩ : Prg) il ⟨⟨r0, r1, r2, r3, ⟨mA, m.st.mem.length, mC⟩, ⟨kA, m.st.stack.length, kC⟩, cpc⟩, ⟨bA, m.buf.length, bC⟩, ⟨qA, m.rsb.length, qC⟩, fin⟩ m w1 (HM.out.past hb).pi (HM.out.past hb).cf (by have := HF.out.bl; omega) (by have := HF.out.rl; omega))
  have HFP := Kept.mk (fun (g : Int) w1 (hb : Below w10.heap.size w10 w1) => pfetch_any (⟨pW, pwin, pfuel, pr0, pr1, pr2, pr3, .slice pmA ml.length pmC, .slice plA plN plC, pA, pN, pC⟩ : Prg) il ⟨⟨r0, r1, r2, r3, ⟨mA, m.st.mem.length, mC⟩, ⟨kA, m.st.stack.length, kC⟩, cpc⟩, ⟨bA, m.buf.length, bC⟩, ⟨qA, m.rsb.length, qC⟩, fin⟩ m g w1 (HM.out.past hb).pi (HM.out.past hb).cf HF.out.ml HF.out.sl HF.out.bl HF.out.rl HF.out.pc)
  have hgb := guesses_bounds pwin il m
  have hil := HM.out.ok.len
  have HQF : Kept (∀ g, 0 ≤ g → g < guessesOf pwin il m → FOnly pwin il m g) := ⟨fun g h0 h1 => fonly HM.out.ok HM.out.inv g h0 h1⟩
  have HZ := Kept.mk (guesses_zero (win := pwin) (il := il) (m := m) HM.out.inv.bl)
  have hbl3 := HM.out.buf_len
  have hcfin : fin = m.fin := HM.out.cf.fin
  have hcpc : cpc = m.st.pc := HM.out.cf.st.pc
  have HCF := Kept.mk hcfin
  have HCP := Kept.mk hcpc
  clear hcfin hcpc
  generalize hgn : guessesOf pwin il m = n at HGP HQF HZ hgb
  have HGN := Kept.mk hgn
  have hn0 : 0 ≤ n := by omega
  have hn1 : n ≤ 1002 := by omega
  clear hgb hil hgn
  go_wp2_with fail
  go_loopw [12] (fun v wr => ∃ g : Int, v = .int .i64 g ∧ 0 ≤ g ∧ g ≤ n ∧ Below w10.heap.size w10 wr) (fun v _ => (n - intOf v).toNat)
  case atStart => exact ⟨0, rfl, by omega, by omega, Below.refl _ _⟩
  case round =>
    obtain ⟨g, rfl, hg0, hg1, hbr⟩ := hrel
    have HB := Kept.mk hbr
    have XP1 := heap_keep XP.out hbr
    have XC1 := heap_keep XC.out hbr
    clear hbr
    by_cases hlt : g < n
    · have wg : IntKind.i64.wrap (g + 1) = g + 1 := IntWalk.i64_in _ (by omega)
      have Y6 := fun j => cell_of_row wr w6.heap.size j _ _ _ XP1
      have Y9 := fun j => cell_of_row wr w9.heap.size j _ _ _ XC1
      simp only [Prg.cs] at Y6
      go_wp2_with fail
      refine (HGP.out wr HB.out).mono ?_
      rintro en w11 ⟨rfl, b11⟩
      have hb := HB.out.trans (b11.mono HB.out.size)
      have Y6 := fun j => cell_of_row w11 w6.heap.size j _ _ _ (heap_keep XP.out hb)
      have Y9 := fun j => cell_of_row w11 w9.heap.size j _ _ _ (heap_keep XC.out hb)
      simp only [Prg.cs] at Y6
      clear XP1 XC1 b11 HB
      go_wp2_with fail
      refine (HFP.out g w11 hb).mono ?_
      rintro en w12 ⟨cx, rfl, hcx, b12⟩
      obtain ⟨hfq, hfb, hfe0, hfe4, hffin, hfrl, hfw, hfr⟩ := HQF.out g hg0 hlt
      rw [hfq] at hcx ⊢
      have hb := hb.trans (b12.mono hb.size)
      clear Y6 Y9 b12 hfq
      obtain ⟨⟨x0, x1, x2, x3, ⟨xmA, xmN, xmC⟩, ⟨xsA, xsN, xsC⟩, xpc⟩, ⟨xbA, xbN, xbC⟩, ⟨xqA, xqN, xqC⟩, xf⟩ := cx
      generalize fetchOf il m g = fo at *
      generalize fetchEnt il m g = fe at *
      obtain ⟨⟨fe0, fe1, fe2, fe3, fe4, fe5, fe6, fe7⟩, fr⟩ := fe
      have hxbn : xbN = m.buf.length + 1 := by have h := hcx.buf.n; simp only [Option.getD_some] at h; rw [hfb] at h; simpa using h
      have hxbc : xbN ≤ xbC := hcx.buf.c
      have hxf : xf = 0 := hcx.fin.trans hffin
      have hxq : xqN ≤ 2 := by have h := hcx.rsb.n; simp only [Option.getD_some] at h hfrl; omega
      have hrd : RdE w12 xbA (m.buf ++ [⟨fe0, fe1, fe2, fe3, fe4, fe5, fe6, fe7⟩]) := by have h := hcx.buf.r; simp only [Option.getD_some] at h; rw [hfb] at h; exact h
      obtain ⟨xb, xo, rfl, hxb, q0, -, -, -, q4, -⟩ := RdE.at_ hrd (i := m.buf.length) (by simp)
      rw [List.getElem_concat_length rfl] at q0 q4
      have hq0 : cpc = fe0 := HCP.out.trans hfe0.symm
      have hq4 : xpc = fe4 := hcx.st.pc.trans hfe4.symm
      simp only at q0 q4
      subst hq0 hq4 hxbn hxf
      have HRD := Kept.mk hrd
      have HCX := Kept.mk hcx
      have HBx := Kept.mk hb
      have HFF := Kept.mk hffin
      have HFR := Kept.mk hfr
      have HBC := Kept.mk hxbc
      clear hrd hcx hfb hfe0 hfe4 hffin hfrl hfr hxbc
      have Y9 := fun j => cell_of_row w12 w9.heap.size j _ _ _ (heap_keep XC.out hb)
      go_upto_region 8 with (fail)
      have bX := below_alloc_self w12 (.cells #[.int .i64 (x0), .int .i64 (x1), .int .i64 (x2), .int .i64 (x3), .slice xmA xmN xmC, .slice xsA xsN xsC, .int .i64 (xpc), .slice (some ⟨xb, xo, none⟩) (m.buf.length + 1) xbC, .slice xqA xqN xqC, .int .i64 (0)] 41)
      have hb := hb.trans (bX.mono hb.size)
      have X1 := heap_alloc_new w12 (.cells #[.int .i64 (x0), .int .i64 (x1), .int .i64 (x2), .int .i64 (x3), .slice xmA xmN xmC, .slice xsA xsN xsC, .int .i64 (xpc), .slice (some ⟨xb, xo, none⟩) (m.buf.length + 1) xbC, .slice xqA xqN xqC, .int .i64 (0)] 41)
      have q0 := (heap_cell (p := ⟨xb, xo + m.buf.length * 8, none⟩) bX hxb).trans q0
      have q4 := (heap_cell (p := ⟨xb, xo + m.buf.length * 8 + 4, none⟩) bX hxb).trans q4
      have HRD := Kept.mk (HRD.out.past bX)
      have HCX := Kept.mk (HCX.out.past bX)
      clear Y9 HBx
      generalize w12.alloc (.cells #[.int .i64 (x0), .int .i64 (x1), .int .i64 (x2), .int .i64 (x3), .slice xmA xmN xmC, .slice xsA xsN xsC, .int .i64 (xpc), .slice (some ⟨xb, xo, none⟩) (m.buf.length + 1) xbC, .slice xqA xqN xqC, .int .i64 (0)] 41) = w13 at *
      obtain ⟨S1, hS1⟩ : ∃ S, w12.heap.size = S := ⟨_, rfl⟩
      rw [hS1] at X1 ⊢
      clear hS1 bX hxb
      have K1 := Kept.mk X1
      have XP1 := heap_keep XP.out hb
      have XC1 := heap_keep XC.out hb
      have KP := Kept.mk XP1
      have KC := Kept.mk XC1
      have Y6 := fun j => cell_of_row w13 w6.heap.size j _ _ _ XP1
      have Y9 := fun j => cell_of_row w13 w9.heap.size j _ _ _ XC1
      have Y1 := fun j => cell_of_row w13 S1 j _ _ _ X1
      have hlt8 : m.buf.length < m.buf.length + 1 := Nat.lt_succ_self _
      simp only [Prg.cs] at Y6
      clear XP1 XC1 X1
      go_upto_region 9 with (fail)
      refine fo_reg9 w13 w6.heap.size w9.heap.size S1 pW pwin pfuel pr0 pr1 pr2 pr3 pmA plA pA ml.length pmC plN plC pN pC r0 r1 r2 r3 cpc fin mA kA bA qA m.st.mem.length mC m.st.stack.length kC m.buf.length bC m.rsb.length qC x0 x1 x2 x3 xpc xmA xsA xqA xmN xmC xsN xsC xbC xqN xqC xb xo KP.out KC.out K1.out q0 q4 hxq hfw hbl3 _ ?_
      intros
      rename_i wq hbq
      have hb := hb.trans (hbq.mono hb.size)
      have X1 := heap_keep K1.out hbq
      have HRD := Kept.mk (HRD.out.past hbq)
      have HCX := Kept.mk (HCX.out.past hbq)
      clear Y6 Y9 Y1 K1 KP KC q0 q4 hbq
      have Y1 := fun j => cell_of_row wq S1 j _ _ _ X1
      go_upto_region 12 with (fail)
      have bX := below_alloc_self wq (.cells #[.int .i64 (x0), .int .i64 (x1), .int .i64 (x2), .int .i64 (x3), .slice xmA xmN xmC, .slice xsA xsN xsC, .int .i64 (xpc), .slice (some ⟨xb, xo, none⟩) (m.buf.length + 1) xbC, .slice xqA xqN xqC, .int .i64 (0)] 41)
      have X1 := heap_keep X1 bX
      have X2 := heap_alloc_new wq (.cells #[.int .i64 (x0), .int .i64 (x1), .int .i64 (x2), .int .i64 (x3), .slice xmA xmN xmC, .slice xsA xsN xsC, .int .i64 (xpc), .slice (some ⟨xb, xo, none⟩) (m.buf.length + 1) xbC, .slice xqA xqN xqC, .int .i64 (0)] 41)
      have HBQ := Kept.mk hb
      have hb := hb.trans (bX.mono hb.size)
      have hs2 : wq.heap.size < (wq.alloc (.cells #[.int .i64 (x0), .int .i64 (x1), .int .i64 (x2), .int .i64 (x3), .slice xmA xmN xmC, .slice xsA xsN xsC, .int .i64 (xpc), .slice (some ⟨xb, xo, none⟩) (m.buf.length + 1) xbC, .slice xqA xqN xqC, .int .i64 (0)] 41)).heap.size := by simp
      have BQ := Kept.mk bX
      clear Y1 bX
      generalize wq.alloc (.cells #[.int .i64 (x0), .int .i64 (x1), .int .i64 (x2), .int .i64 (x3), .slice xmA xmN xmC, .slice xsA xsN xsC, .int .i64 (xpc), .slice (some ⟨xb, xo, none⟩) (m.buf.length + 1) xbC, .slice xqA xqN xqC, .int .i64 (0)] 41) = w14 at *
      obtain ⟨S2, hS2⟩ : ∃ S, wq.heap.size = S := ⟨_, rfl⟩
      rw [hS2] at X2 hs2 ⊢
      have KS := Kept.mk hS2
      clear hS2
      have XC1 := heap_keep XC.out hb
      have K2 := Kept.mk X2
      have KC := Kept.mk XC1
      have Y1 := fun j => cell_of_row w14 S1 j _ _ _ X1
      have Y2 := fun j => cell_of_row w14 S2 j _ _ _ X2
      have F2 := fun j => frozen_of_row w14 S2 j _ _ X2
      have Y9 := fun j => cell_of_row w14 w9.heap.size j _ _ _ XC1
      have hcut := fun w1 => cut_ent_run (some ⟨xb, xo, none⟩) (m.buf.length + 1) xbC m.buf.length (by omega) HBC.out w1
      clear X1 X2 XC1
      go_region
      have BY : Below wq.heap.size wq (((w14.setCell ⟨S2, 7, none⟩ (.slice (some ⟨xb, xo, none⟩) m.buf.length xbC)).setCell ⟨S2, 6, none⟩ (.int .i64 cpc)).setCell ⟨S2, 8, none⟩ (.slice qA m.rsb.length qC)).drew := (((BQ.out.setCell (p := ⟨S2, 7, none⟩) (by show _ ≤ S2; rw [KS.out]; exact Nat.le_refl _) _).setCell (p := ⟨S2, 6, none⟩) (by show _ ≤ S2; rw [KS.out]; exact Nat.le_refl _) _).setCell (p := ⟨S2, 8, none⟩) (by show _ ≤ S2; rw [KS.out]; exact Nat.le_refl _) _).drew
      have hb := HBQ.out.trans (BY.mono HBQ.out.size)
      have X2 : (((w14.setCell ⟨S2, 7, none⟩ (.slice (some ⟨xb, xo, none⟩) m.buf.length xbC)).setCell ⟨S2, 6, none⟩ (.int .i64 cpc)).setCell ⟨S2, 8, none⟩ (.slice qA m.rsb.length qC)).drew.heap[S2]? = some (.cells #[.int .i64 x0, .int .i64 x1, .int .i64 x2, .int .i64 x3, .slice xmA xmN xmC, .slice xsA xsN xsC, .int .i64 cpc, .slice (some ⟨xb, xo, none⟩) m.buf.length xbC, .slice qA m.rsb.length qC, .int .i64 0] 41) := heap_setCell_same _ S2 8 _ _ (.slice qA m.rsb.length qC) (heap_setCell_same _ S2 6 _ _ (.int .i64 cpc) (heap_setCell_same w14 S2 7 _ _ (.slice (some ⟨xb, xo, none⟩) m.buf.length xbC) K2.out))
      have HCY : CfIs (((w14.setCell ⟨S2, 7, none⟩ (.slice (some ⟨xb, xo, none⟩) m.buf.length xbC)).setCell ⟨S2, 6, none⟩ (.int .i64 cpc)).setCell ⟨S2, 8, none⟩ (.slice qA m.rsb.length qC)).drew ⟨⟨x0, x1, x2, x3, ⟨xmA, xmN, xmC⟩, ⟨xsA, xsN, xsC⟩, cpc⟩, ⟨some ⟨xb, xo, none⟩, m.buf.length, xbC⟩, ⟨qA, m.rsb.length, qC⟩, 0⟩ m := by
        have h := HCX.out.past BY
        have this : CfIs (((w14.setCell ⟨S2, 7, none⟩ (.slice (some ⟨xb, xo, none⟩) m.buf.length xbC)).setCell ⟨S2, 6, none⟩ (.int .i64 cpc)).setCell ⟨S2, 8, none⟩ (.slice qA m.rsb.length qC)).drew ⟨⟨x0, x1, x2, x3, ⟨xmA, xmN, xmC⟩, ⟨xsA, xsN, xsC⟩, cpc⟩, ⟨some ⟨xb, xo, none⟩, m.buf.length, xbC⟩, ⟨qA, m.rsb.length, qC⟩, 0⟩ { fo with buf := m.buf, rsb := m.rsb, st := { fo.st with pc := m.st.pc } } := ⟨⟨h.st.r0, h.st.r1, h.st.r2, h.st.r3, h.st.mem, h.st.stack, HCP.out⟩,
          ⟨rfl, by show m.buf.length ≤ xbC; have := HBC.out; omega, by have h2 := (HRD.out.past BY).to (k := m.buf.length) (by simp); simpa using h2⟩, (HM.out.past hb).cf.rsb, HFF.out.symm⟩
        rw [HFR.out] at this
        exact this
      have HCC := (HM.out.past hb).cf
      clear Y1 Y2 F2 Y9 hcut BY BQ K2 HCX HRD HBQ KC
      generalize (((w14.setCell ⟨S2, 7, none⟩ (.slice (some ⟨xb, xo, none⟩) m.buf.length xbC)).setCell ⟨S2, 6, none⟩ (.int .i64 cpc)).setCell ⟨S2, 8, none⟩ (.slice qA m.rsb.length qC)).drew = w15 at *
      have XC1 := heap_keep XC.out hb
      have Y2 := fun j => cell_of_row w15 S2 j _ _ _ X2
      have Y9 := fun j => cell_of_row w15 w9.heap.size j _ _ _ XC1
      have HSM : Calls Try.prog 30 #[.agg #[.int .i64 x0, .int .i64 x1, .int .i64 x2, .int .i64 x3, .slice xmA xmN xmC, .slice xsA xsN xsC, .int .i64 cpc, .slice (some ⟨xb, xo, none⟩) m.buf.length xbC, .slice qA m.rsb.length qC, .int .i64 0], .agg #[.int .i64 (r0), .int .i64 (r1), .int .i64 (r2), .int .i64 (r3), .slice mA m.st.mem.length mC, .slice kA m.st.stack.length kC, .int .i64 (cpc), .slice bA m.buf.length bC, .slice qA m.rsb.length qC, .int .i64 (fin)]] w15 fun en w' => en = .returned (.bool true) ∧ Below w15.heap.size w15 w' := by
        have h := same9 ⟨⟨x0, x1, x2, x3, ⟨xmA, xmN, xmC⟩, ⟨xsA, xsN, xsC⟩, cpc⟩, ⟨some ⟨xb, xo, none⟩, m.buf.length, xbC⟩, ⟨qA, m.rsb.length, qC⟩, 0⟩ ⟨⟨r0, r1, r2, r3, ⟨mA, m.st.mem.length, mC⟩, ⟨kA, m.st.stack.length, kC⟩, cpc⟩, ⟨bA, m.buf.length, bC⟩, ⟨qA, m.rsb.length, qC⟩, fin⟩ m m w15 HCY HCC HF.out.ml HF.out.sl HF.out.bl HF.out.rl HF.out.ml HF.out.sl HF.out.bl HF.out.rl
        rw [decide_eq_true rfl] at h
        exact h
      clear XC1 X2 HCY HCC
      have HSM := Kept.mk HSM
      go_wp2_with fail
      refine HSM.out.mono ?_
      rintro en w16 ⟨rfl, b16⟩
      have HBe := Kept.mk (hb.trans (b16.mono hb.size))
      clear Y2 Y9 HSM b16 hb
      go_wp2_with fail
      go_roundw
      case rel => exact ⟨g + 1, by go_num, by omega, by omega, HBe.out⟩
      case measure => simp [intOf]; omega
    · have hge : g = n := by omega
      subst hge
      have X7 := XP1
      have XCK : Kept (∀ w1, Below wr.heap.size wr w1 → CellsAt w1 w9.heap.size 0 [.int .i64 (r0), .int .i64 (r1), .int .i64 (r2), .int .i64 (r3), .slice mA m.st.mem.length mC, .slice kA m.st.stack.length kC, .int .i64 (cpc), .slice bA m.buf.length bC, .slice qA m.rsb.length qC, .int .i64 (fin)]) := ⟨fun w1 hb => CellsAt.of_block (heap_keep XC1 hb)⟩
      have XPK : Kept (∀ w1, Below wr.heap.size wr w1 → CellsAt w1 w6.heap.size 0 [.int .i64 (pW), .int .i64 (pwin), .int .i64 (pfuel), .int .i64 (pr0), .int .i64 (pr1), .int .i64 (pr2), .int .i64 (pr3), .slice pmA ml.length pmC, .slice plA plN plC, .slice pA pN pC]) := ⟨fun w1 hb => CellsAt.of_block (heap_keep XP1 hb)⟩
      have HGK := Kept.mk (fun w1 (hb1 : Below wr.heap.size wr w1) => HGP.out w1 (HB.out.trans (hb1.mono HB.out.size)))
      have Y6 := fun j => cell_of_row wr w6.heap.size j _ _ _ XP1
      have Y9 := fun j => cell_of_row wr w9.heap.size j _ _ _ XC1
      simp only [Prg.cs] at Y6
      have hlt' : decide (g < g) = false := by simp
      clear XP1 XC1 X7
      go_wp2_with fail
      refine (HGP.out wr HB.out).mono ?_
      rintro en w11 ⟨rfl, b11⟩
      have hb := HB.out.trans (b11.mono HB.out.size)
      clear Y6 Y9 b11 XCK XPK HGK HB
      go_upto_region 15 with (fail)
      have HB := Kept.mk hb
      have XP1 := heap_keep XP.out hb
      have XC1 := heap_keep XC.out hb
      have XCK : Kept (∀ w1, Below w11.heap.size w11 w1 → CellsAt w1 w9.heap.size 0 [.int .i64 (r0), .int .i64 (r1), .int .i64 (r2), .int .i64 (r3), .slice mA m.st.mem.length mC, .slice kA m.st.stack.length kC, .int .i64 (cpc), .slice bA m.buf.length bC, .slice qA m.rsb.length qC, .int .i64 (fin)]) := ⟨fun w1 hb => CellsAt.of_block (heap_keep XC1 hb)⟩
      have XPK : Kept (∀ w1, Below w11.heap.size w11 w1 → CellsAt w1 w6.heap.size 0 [.int .i64 (pW), .int .i64 (pwin), .int .i64 (pfuel), .int .i64 (pr0), .int .i64 (pr1), .int .i64 (pr2), .int .i64 (pr3), .slice pmA ml.length pmC, .slice plA plN plC, .slice pA pN pC]) := ⟨fun w1 hb => CellsAt.of_block (heap_keep XP1 hb)⟩
      have HGK := Kept.mk (fun w1 (hb1 : Below w11.heap.size w11 w1) => HGP.out w1 (HB.out.trans (hb1.mono HB.out.size)))
      clear XP1 XC1 hb
      have hz := HZ.out
      rw [← HCF.out, ← HCP.out] at hz
      by_cases hf : fin = 0
      · have hqf : (fin != 0) = false := by simp [hf]
        by_cases hp : cpc = -1
        · have hqp : (cpc == -1) = true := by simp [hp]
          have hn0 : (g == 0) = true := by simpa using hz.2 (.inr (.inl hp))
          refine fo_end2 w11 w6.heap.size w9.heap.size 0 pW pwin pfuel pr0 pr1 pr2 pr3 pmA plA pA ml.length pmC plN plC pN pC r0 r1 r2 r3 cpc fin mA kA bA qA m.st.mem.length mC m.st.stack.length kC m.buf.length bC m.rsb.length qC g XPK XCK HGK hn0 hqf hqp _ ?_
          intros
          rename_i w15 b15
          have HBe := Kept.mk ((W10.out.trans (HB.out.mono W10.out.size)).trans (b15.mono (by have := HB.out.size; have := W10.out.size; omega)))
          clear XCK XPK HGK
          go_wp2_with fail
          go_ret
          exact ⟨rfl, HBe.out⟩
        · have hqp : (cpc == -1) = false := by simp [hp]
          by_cases hw : (m.buf.length : Int) = pwin
          · have hqw : ((m.buf.length : Int) == pwin) = true := by simp [hw]
            have hn0 : (g == 0) = true := by simpa using hz.2 (.inr (.inr hw))
            refine fo_end3 w11 w6.heap.size w9.heap.size 0 pW pwin pfuel pr0 pr1 pr2 pr3 pmA plA pA ml.length pmC plN plC pN pC r0 r1 r2 r3 cpc fin mA kA bA qA m.st.mem.length mC m.st.stack.length kC m.buf.length bC m.rsb.length qC g XPK XCK HGK hn0 hqf hqp hqw _ ?_
            intros
            rename_i w15 b15
            have HBe := Kept.mk ((W10.out.trans (HB.out.mono W10.out.size)).trans (b15.mono (by have := HB.out.size; have := W10.out.size; omega)))
            clear XCK XPK HGK
            go_wp2_with fail
            go_ret
            exact ⟨rfl, HBe.out⟩
          · have hqw : ((m.buf.length : Int) == pwin) = false := by simp [hw]
            have hn0 : (g == 0) = false := by
              simp only [beq_eq_false_iff_ne, ne_eq]
              exact fun h0 => by rcases hz.1 h0 with h | h | h <;> omega
            refine fo_end4 w11 w6.heap.size w9.heap.size 0 pW pwin pfuel pr0 pr1 pr2 pr3 pmA plA pA ml.length pmC plN plC pN pC r0 r1 r2 r3 cpc fin mA kA bA qA m.st.mem.length mC m.st.stack.length kC m.buf.length bC m.rsb.length qC g XPK XCK HGK hn0 hqf hqp hqw _ ?_
            intros
            rename_i w15 b15
            have HBe := Kept.mk ((W10.out.trans (HB.out.mono W10.out.size)).trans (b15.mono (by have := HB.out.size; have := W10.out.size; omega)))
            clear XCK XPK HGK
            go_wp2_with fail
            go_ret
            exact ⟨rfl, HBe.out⟩
      · have hqf : (fin != 0) = true := by simp [hf]
        have hn0 : (g == 0) = true := by simpa using hz.2 (.inl hf)
        refine fo_end1 w11 w6.heap.size w9.heap.size 0 pW pwin pfuel pr0 pr1 pr2 pr3 pmA plA pA ml.length pmC plN plC pN pC r0 r1 r2 r3 cpc fin mA kA bA qA m.st.mem.length mC m.st.stack.length kC m.buf.length bC m.rsb.length qC g XPK XCK HGK hn0 hqf _ ?_
        intros
        rename_i w15 b15
        have HBe := Kept.mk ((W10.out.trans (HB.out.mono W10.out.size)).trans (b15.mono (by have := HB.out.size; have := W10.out.size; omega)))
        clear XCK XPK HGK
        go_wp2_with fail
        go_ret
        exact ⟨rfl, HBe.out⟩
theorem fonly_law (A2 : Option Addr) (c2 : Nat) (mk : List Int) (A3 : Option Addr) (c3 : Nat) (l : List Int) (A4 : Option Addr) (c4 : Nat) (wk : List Int) (w : World) (_hc2 : mk.length ≤ c2) (_hm2 : c2 ≤ maxLen) (hr2 : RdI w A2 mk) (_ok2 : ∀ x ∈ mk, -9223372036854775808 ≤ x ∧ x ≤ 9223372036854775807) (_hc3 : l.length ≤ c3) (_hm3 : c3 ≤ maxLen) (hr3 : RdI w A3 l) (_ok3 : ∀ x ∈ l, -9223372036854775808 ≤ x ∧ x ≤ 9223372036854775807) (_hc4 : wk.length ≤ c4) (_hm4 : c4 ≤ maxLen) (hr4 : RdI w A4 wk) (_ok4 : ∀ x ∈ wk, -9223372036854775808 ≤ x ∧ x ≤ 9223372036854775807) :
    Calls Try.prog 10 #[.slice A2 mk.length c2, .slice A3 l.length c3, .slice A4 wk.length c4] w (SaysTrue w) := fonly_walk A2 c2 mk A3 c3 l A4 c4 wk w hr2 hr3 hr4
end Go.Proofs.Ytchldbkjapnlcaa
