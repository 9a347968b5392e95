/- The law RetiOwn: to commit leaves the machine that it was said to as it was, whoever turns what came of it. -/
import Derived.Test.YtchldbkjapnlcaaJr
import Derived.Test.YtchldbkjapnlcaaJq
import Derived.Test.YtchldbkjapnlcaaJu
import Derived.Test.YtchldbkjapnlcaaJl
import Derived.Deep.DeepCutAuto
set_option linter.unusedVariables false
set_option linter.unusedSimpArgs false
namespace Go.Proofs.Ytchldbkjapnlcaa
open Go.RowKit

theorem CfOwn.setStack {w : World} {B : Nat} {c : Cnf} {m : Conf} (h : CfOwn w B c m) (g k : Nat) (v : Value) (l : List Int) (hA : c.st.stack.A = some ⟨g, 0, none⟩) (hv : OwnI (w.setCell ⟨g, k, none⟩ v) B (.slice c.st.stack.A c.st.stack.n c.st.stack.c) l) :
    CfOwn (w.setCell ⟨g, k, none⟩ v) B c { m with st := { m.st with stack := l } } := by
  have hg : w.grownBy (w.setCell ⟨g, k, none⟩ v) (Value.slice c.st.stack.A c.st.stack.n c.st.stack.c).ownBlock := by rw [hA]; exact grown_setCell w ⟨g, k, none⟩ v
  exact ⟨⟨h.st.r0, h.st.r1, h.st.r2, h.st.r3, World.ownsRow.kept h.st.mem hg (ne_of_dj h.st.dj.symm), hv, h.st.pc, h.st.dj⟩,
    World.ownsRow.kept h.buf hg (ne_of_dj (dj_stack h.djb)), World.ownsRow.kept h.rsb hg (ne_of_dj (dj_stack h.djq)), h.fin, h.djb, h.djq, h.djx⟩
theorem CfOwn.setBuf {w : World} {B : Nat} {c : Cnf} {m : Conf} (h : CfOwn w B c m) (g k : Nat) (v : Value) (l : List Ent) (hA : c.buf.A = some ⟨g, 0, none⟩) (hv : OwnE (w.setCell ⟨g, k, none⟩ v) B (.slice c.buf.A c.buf.n c.buf.c) l) :
    CfOwn (w.setCell ⟨g, k, none⟩ v) B c { m with buf := l } := by
  have hg : w.grownBy (w.setCell ⟨g, k, none⟩ v) (Value.slice c.buf.A c.buf.n c.buf.c).ownBlock := by rw [hA]; exact grown_setCell w ⟨g, k, none⟩ v
  exact ⟨⟨h.st.r0, h.st.r1, h.st.r2, h.st.r3, World.ownsRow.kept h.st.mem hg (ne_of_dj (dj_mem h.djb).symm), World.ownsRow.kept h.st.stack hg (ne_of_dj (dj_stack h.djb).symm), h.st.pc, h.st.dj⟩,
    hv, World.ownsRow.kept h.rsb hg (ne_of_dj h.djx), h.fin, h.djb, h.djq, h.djx⟩
set_option maxRecDepth 100000 in
set_option maxHeartbeats 3000000 in
theorem rtown_walk (A2 : Option Addr) (c2 : Nat) (mk : List Int) (A3 : Option Addr) (c3 : Nat) (l : List Int) (A4 : Option Addr) (c4 : Nat) (wk : List Int) (w : World) (hr2 : RdI w A2 mk) (hr3 : RdI w A3 l) (hr4 : RdI w A4 wk) :
    Calls Try.prog 6 #[.slice A2 mk.length c2, .slice A3 l.length c3, .slice A4 wk.length c4] w (SaysTrue w) := by
  have HAW := Kept.mk awake16
  have HR2 := Kept.mk hr2
  have HR3 := Kept.mk hr3
  have HR4 := Kept.mk hr4
  clear hr2 hr3 hr4
  go_enter Try.func6, Try.ntmps6
  go_wp2_with fail
  refine (make_at A2 mk mk.length c2 w rfl HR2.out).mono ?_
  rintro en w6 ⟨p, il, ml, rfl, hmk, b6⟩
  have W6 := Kept.mk b6
  obtain ⟨pmA, pmC, hpm, -, -⟩ := hmk.mem
  obtain ⟨plA, plN, plC, hpl⟩ := hmk.lab
  obtain ⟨pW, pwin, pfuel, pr0, pr1, pr2, pr3, pmems, plabels, pA, pN, pC⟩ := p
  simp only at hpm hpl
  subst hpm hpl
  have HMK := Kept.mk hmk
  clear hmk b6
  obtain ⟨HPM, hPM⟩ : ∃ x : Kept (ProgOk pW pwin il), x = x := ⟨⟨make_prog HMK.out⟩, rfl⟩
  clear hPM
  go_wp2_with fail
  have ba := below_alloc_self w6 (.cells (Prg.cs (⟨pW, pwin, pfuel, pr0, pr1, pr2, pr3, .slice pmA ml.length pmC, .slice plA plN plC, pA, pN, pC⟩ : Prg)).toArray 33)
  refine (states_mach (⟨pW, pwin, pfuel, pr0, pr1, pr2, pr3, .slice pmA ml.length pmC, .slice plA plN plC, pA, pN, pC⟩ : Prg) il ml A3 l l.length c3 (w6.alloc (.cells (Prg.cs (⟨pW, pwin, pfuel, pr0, pr1, pr2, pr3, .slice pmA ml.length pmC, .slice plA plN plC, pA, pN, pC⟩ : Prg)).toArray 33)) rfl (HMK.out.past ba) (HR3.out.past (W6.out.trans (ba.mono W6.out.size)))).mono ?_
  rintro en w7 ⟨s, t, ms, mt, rfl, hs, ht, b7⟩
  have XP := Kept.mk (heap_keep (heap_alloc_new w6 (.cells (Prg.cs (⟨pW, pwin, pfuel, pr0, pr1, pr2, pr3, .slice pmA ml.length pmC, .slice plA plN plC, pA, pN, pC⟩ : Prg)).toArray 33)) b7)
  have W7 := Kept.mk ((W6.out.trans (ba.mono W6.out.size)).trans (b7.mono (by have := W6.out.size; simp; omega)))
  have HMK := Kept.mk ((HMK.out.past ba).past b7)
  have HS := Kept.mk hs
  have HT := Kept.mk ht
  clear hs ht b7 ba
  obtain ⟨s0, s1, s2, s3, ⟨sA, sN, sC⟩, ⟨uA, uN, uC⟩, s6⟩ := s
  obtain ⟨t0, t1, t2, t3, ⟨tA, tN, tC⟩, ⟨vA, vN, vC⟩, t6⟩ := t
  go_upto_region 3 with (fail)
  have bb := (below_alloc_self w7 (.cells #[.int .i64 s0, .int .i64 s1, .int .i64 s2, .int .i64 s3, .slice sA sN sC, .slice uA uN uC, .int .i64 s6] 36)).alloc (by simp) (.cells #[.int .i64 t0, .int .i64 t1, .int .i64 t2, .int .i64 t3, .slice tA tN tC, .slice vA vN vC, .int .i64 t6] 36)
  have XS := Kept.mk ((heap_alloc_old _ _ (by simp)).trans (heap_alloc_new w7 (.cells #[.int .i64 s0, .int .i64 s1, .int .i64 s2, .int .i64 s3, .slice sA sN sC, .slice uA uN uC, .int .i64 s6] 36)) : ((w7.alloc (.cells #[.int .i64 s0, .int .i64 s1, .int .i64 s2, .int .i64 s3, .slice sA sN sC, .slice uA uN uC, .int .i64 s6] 36)).alloc (.cells #[.int .i64 t0, .int .i64 t1, .int .i64 t2, .int .i64 t3, .slice tA tN tC, .slice vA vN vC, .int .i64 t6] 36)).heap[w7.heap.size]? = some (.cells #[.int .i64 s0, .int .i64 s1, .int .i64 s2, .int .i64 s3, .slice sA sN sC, .slice uA uN uC, .int .i64 s6] 36))
  have XT := Kept.mk (heap_alloc2_new w7 (.cells #[.int .i64 s0, .int .i64 s1, .int .i64 s2, .int .i64 s3, .slice sA sN sC, .slice uA uN uC, .int .i64 s6] 36) (.cells #[.int .i64 t0, .int .i64 t1, .int .i64 t2, .int .i64 t3, .slice tA tN tC, .slice vA vN vC, .int .i64 t6] 36))
  have XP := Kept.mk (heap_keep XP.out bb)
  have W8 := Kept.mk (W7.out.trans (bb.mono W7.out.size))
  have HMK := Kept.mk (HMK.out.past bb)
  have HS := Kept.mk (HS.out.past bb)
  have HT := Kept.mk (HT.out.past bb)
  clear bb
  generalize (w7.alloc (.cells #[.int .i64 s0, .int .i64 s1, .int .i64 s2, .int .i64 s3, .slice sA sN sC, .slice uA uN uC, .int .i64 s6] 36)).alloc (.cells #[.int .i64 t0, .int .i64 t1, .int .i64 t2, .int .i64 t3, .slice tA tN tC, .slice vA vN vC, .int .i64 t6] 36) = w8 at *
  have Y6 := fun j => cell_of_row w8 w6.heap.size j _ _ _ XP.out
  have Y7 := fun j => cell_of_row w8 w7.heap.size j _ _ _ XS.out
  simp only [Prg.cs] at Y6
  go_wp2_with fail
  refine (walk_mach (⟨pW, pwin, pfuel, pr0, pr1, pr2, pr3, .slice pmA ml.length pmC, .slice plA plN plC, pA, pN, pC⟩ : Prg) il ml ⟨s0, s1, s2, s3, ⟨sA, sN, sC⟩, ⟨uA, uN, uC⟩, s6⟩ ms A4 wk wk.length c4 w8 rfl HMK.out HS.out (HR4.out.past W8.out)).mono ?_
  rintro en w9 ⟨c, m, dv, out, k, rfl, hm, hd, _, b9⟩
  obtain ⟨dA, dC, rfl, -, -⟩ := hd.shape
  have W9 := Kept.mk (W8.out.trans (b9.mono W8.out.size))
  have XP := Kept.mk (heap_keep XP.out b9)
  have HM := Kept.mk hm
  clear hd b9 hm Y6 Y7 HS HMK XS HT XT
  obtain ⟨⟨r0, r1, r2, r3, ⟨mA, mN, mC⟩, ⟨kA, kN, kC⟩, cpc⟩, ⟨bA, bN, bC⟩, ⟨qA, qN, qC⟩, fin⟩ := c
  have hbn : bN = m.buf.length := HM.out.cf.buf.n
  have hkn : kN = m.st.stack.length := HM.out.cf.st.stack.n
  have hmn : mN = m.st.mem.length := HM.out.cf.st.mem.n
  have hqn : qN = m.rsb.length := HM.out.cf.rsb.n
  subst hbn hkn hmn hqn
  have HF := Kept.mk (inv_fit HM.out.ok HM.out.inv (Nat.le_trans HM.out.kl (by decide)) HM.out.ll)
  go_upto_region 4 with (fail)
  have bc := below_alloc_self w9 (.cells #[.int .i64 r0, .int .i64 r1, .int .i64 r2, .int .i64 r3, .slice mA m.st.mem.length mC, .slice kA m.st.stack.length kC, .int .i64 cpc, .slice bA m.buf.length bC, .slice qA m.rsb.length qC, .int .i64 fin] 41)
  have XC := Kept.mk (heap_alloc_new w9 (.cells #[.int .i64 r0, .int .i64 r1, .int .i64 r2, .int .i64 r3, .slice mA m.st.mem.length mC, .slice kA m.st.stack.length kC, .int .i64 cpc, .slice bA m.buf.length bC, .slice qA m.rsb.length qC, .int .i64 fin] 41))
  have XP := Kept.mk (heap_keep XP.out bc)
  have W10 := Kept.mk (W9.out.trans (bc.mono W9.out.size))
  have HM := Kept.mk (HM.out.past bc)
  clear bc
  generalize w9.alloc (.cells #[.int .i64 r0, .int .i64 r1, .int .i64 r2, .int .i64 r3, .slice mA m.st.mem.length mC, .slice kA m.st.stack.length kC, .int .i64 cpc, .slice bA m.buf.length bC, .slice qA m.rsb.length qC, .int .i64 fin] 41) = w10 at *
  have HCP := Kept.mk (fun w1 (hb : Below w10.heap.size w10 w1) => pretire_any (⟨pW, pwin, pfuel, pr0, pr1, pr2, pr3, .slice pmA ml.length pmC, .slice plA plN plC, pA, pN, pC⟩ : Prg) il ⟨⟨r0, r1, r2, r3, ⟨mA, m.st.mem.length, mC⟩, ⟨kA, m.st.stack.length, kC⟩, cpc⟩, ⟨bA, m.buf.length, bC⟩, ⟨qA, m.rsb.length, qC⟩, fin⟩ m w1 (HM.out.past hb).pi (HM.out.past hb).cf HF.out.ml HF.out.sl HF.out.bl HF.out.rl HF.out.sm HF.out.rt)
  have HCR := Kept.mk (fun w1 (hb : Below w10.heap.size w10 w1) => rretire_any (⟨pW, pwin, pfuel, pr0, pr1, pr2, pr3, .slice pmA ml.length pmC, .slice plA plN plC, pA, pN, pC⟩ : Prg) il ⟨⟨r0, r1, r2, r3, ⟨mA, m.st.mem.length, mC⟩, ⟨kA, m.st.stack.length, kC⟩, cpc⟩, ⟨bA, m.buf.length, bC⟩, ⟨qA, m.rsb.length, qC⟩, fin⟩ m w1 (HM.out.past hb).pi (HM.out.past hb).cf (HM.out.past hb).ty HF.out.bl HF.out.ml HF.out.sl HF.out.sm HF.out.rt)
  have HCO := Kept.mk (fun w1 (hb : Below w10.heap.size w10 w1) => code9 ⟨⟨r0, r1, r2, r3, ⟨mA, m.st.mem.length, mC⟩, ⟨kA, m.st.stack.length, kC⟩, cpc⟩, ⟨bA, m.buf.length, bC⟩, ⟨qA, m.rsb.length, qC⟩, fin⟩ m w1 (HM.out.past hb).cf HF.out.ml HF.out.sl HF.out.bl HF.out.rl)
  have hqs := retQ_small HM.out HF.out
  generalize cfInts m = L at HCO
  generalize retQ il m = q at HCP HCR hqs
  have Y6 := fun j => cell_of_row w10 w6.heap.size j _ _ _ XP.out
  have Y9 := fun j => cell_of_row w10 w9.heap.size j _ _ _ XC.out
  go_wp2_with fail
  refine (HCO.out w10 (Below.refl _ _)).mono ?_
  rintro en w11 ⟨vw, rfl, ow, b11⟩
  obtain ⟨wA, wC, rfl, -, rw11⟩ := OwnB.shape ow
  have hst := run_string (w := w11) (c := wC) rw11 rfl
  have HB11 := Kept.mk b11
  clear Y6 Y9 ow rw11
  have Y6 := fun j => cell_of_row w11 w6.heap.size j _ _ _ (heap_keep XP.out b11)
  have Y9 := fun j => cell_of_row w11 w9.heap.size j _ _ _ (heap_keep XC.out b11)
  simp only [Prg.cs] at Y6
  clear b11
  go_wp2_with fail
  refine (HCP.out w11 HB11.out).mono ?_
  rintro en w12 ⟨cx, rfl, hcx, b12⟩
  obtain ⟨⟨x0, x1, x2, x3, ⟨xmA, xmN, xmC⟩, ⟨xsA, xsN, xsC⟩, xpc⟩, ⟨xbA, xbN, xbC⟩, ⟨xqA, xqN, xqC⟩, xf⟩ := cx
  have hxm : xmN ≤ 1000 := by have h := hcx.is.st.mem.n; simp only at h; omega
  have hxb : xbN ≤ 1000 := by have h := hcx.is.buf.n; simp only at h; omega
  have hxs : xsN ≤ 1000 := by have h := hcx.is.st.stack.n; simp only at h; omega
  clear Y6 Y9 hst
  go_upto_region 6 with (fail)
  have bX := below_alloc_self w12 (.cells #[.int .i64 (x0), .int .i64 (x1), .int .i64 (x2), .int .i64 (x3), .slice xmA xmN xmC, .slice xsA xsN xsC, .int .i64 (xpc), .slice xbA xbN xbC, .slice xqA xqN xqC, .int .i64 (xf)] 41)
  have X1 := heap_alloc_new w12 (.cells #[.int .i64 (x0), .int .i64 (x1), .int .i64 (x2), .int .i64 (x3), .slice xmA xmN xmC, .slice xsA xsN xsC, .int .i64 (xpc), .slice xbA xbN xbC, .slice xqA xqN xqC, .int .i64 (xf)] 41)
  have HSTART := And.intro (hcx.past bX) (And.intro X1 (b12.trans (bX.mono b12.size)))
  clear hcx b12 bX X1
  generalize w12.alloc (.cells #[.int .i64 (x0), .int .i64 (x1), .int .i64 (x2), .int .i64 (x3), .slice xmA xmN xmC, .slice xsA xsN xsC, .int .i64 (xpc), .slice xbA xbN xbC, .slice xqA xqN xqC, .int .i64 (xf)] 41) = wl at *
  obtain ⟨S1, hS1⟩ : ∃ S, w12.heap.size = S := ⟨_, rfl⟩
  rw [hS1] at HSTART ⊢
  clear hS1
  have Y1 := fun j => cell_of_row wl S1 j _ _ _ HSTART.2.1
  generalize hbzq : q.isSome = bz0 at *
  go_wp2_with fail
  go_loopw [50] (fun i wr => ∃ (k : Nat) (m2 : Conf), i = .int .i64 ((k : Nat) : Int) ∧ k ≤ xmN ∧ CfOwn wr w11.heap.size ⟨⟨x0, x1, x2, x3, ⟨xmA, xmN, xmC⟩, ⟨xsA, xsN, xsC⟩, xpc⟩, ⟨xbA, xbN, xbC⟩, ⟨xqA, xqN, xqC⟩, xf⟩ m2 ∧ wr.heap[S1]? = some (.cells #[.int .i64 (x0), .int .i64 (x1), .int .i64 (x2), .int .i64 (x3), .slice xmA xmN xmC, .slice xsA xsN xsC, .int .i64 (xpc), .slice xbA xbN xbC, .slice xqA xqN xqC, .int .i64 (xf)] 41) ∧ Below w11.heap.size w11 wr) (fun i _ => xmN - (intOf i).toNat)
  case atStart => exact ⟨0, _, rfl, Nat.zero_le _, HSTART.1, HSTART.2.1, HSTART.2.2⟩
  case round =>
    obtain ⟨k, m2, rfl, hk, ho, hx1, hb1⟩ := hrel
    by_cases hlt : k < xmN
    · have hki : (k : Int) < (xmN : Int) := by omega
      have wk1 : IntKind.i64.wrap ((k : Int) + 1) = (k : Int) + 1 := IntWalk.i64_in _ (by omega)
      have hlen : k < m2.st.mem.length := by have h := ho.is.st.mem.n; simp only at h; omega
      obtain ⟨g, hgA, hgB, ⟨cur, hcur⟩, hcell, hfr, -⟩ := OwnI.elS ho.st.mem hlen 0
      simp only at hgA
      subst hgA
      have hgS : g ≠ S1 := fun e => by subst e; rw [hx1] at hcur; injection hcur with hcur; injection hcur with _ h2; exact absurd h2 (by decide)
      have HO := Kept.mk ho
      have HX := Kept.mk hx1
      have HBL := Kept.mk hb1
      have Y1 := fun j => cell_of_row wr S1 j _ _ _ hx1
      have hkn : k < xmN := hlt
      have hOS := Kept.mk (fun v : Int => own_set_int HO.out.st.mem k hlen v)
      clear ho hx1 hb1 hcur
      go_wp2_with fail
      go_roundw
      case rel => exact ⟨k + 1, _, by go_num, by omega, CfOwn.setMem HO.out g k _ _ rfl (hOS.out _), heap_set_far HX.out hgS, Below.setCell HBL.out (p := ⟨g, k, none⟩) hgB _⟩
      case measure => simp [intOf]; omega
    · have hki : ¬ (k : Int) < (xmN : Int) := by omega
      have HSTART := And.intro ho (And.intro hx1 hb1)
      clear hlt ho hx1 hb1
      generalize wr = wl at *
      have Y1 := fun j => cell_of_row wl S1 j _ _ _ HSTART.2.1
      go_wp2_with fail
      go_loopw [65] (fun i wr => ∃ (k : Nat) (m2 : Conf), i = .int .i64 ((k : Nat) : Int) ∧ k ≤ xbN ∧ CfOwn wr w11.heap.size ⟨⟨x0, x1, x2, x3, ⟨xmA, xmN, xmC⟩, ⟨xsA, xsN, xsC⟩, xpc⟩, ⟨xbA, xbN, xbC⟩, ⟨xqA, xqN, xqC⟩, xf⟩ m2 ∧ wr.heap[S1]? = some (.cells #[.int .i64 (x0), .int .i64 (x1), .int .i64 (x2), .int .i64 (x3), .slice xmA xmN xmC, .slice xsA xsN xsC, .int .i64 (xpc), .slice xbA xbN xbC, .slice xqA xqN xqC, .int .i64 (xf)] 41) ∧ Below w11.heap.size w11 wr) (fun i _ => xbN - (intOf i).toNat)
      case atStart => exact ⟨0, _, rfl, Nat.zero_le _, HSTART.1, HSTART.2.1, HSTART.2.2⟩
      case round =>
        obtain ⟨k, m2, rfl, hk, ho, hx1, hb1⟩ := hrel
        by_cases hlt : k < xbN
        · have hki : (k : Int) < (xbN : Int) := by omega
          have wk1 : IntKind.i64.wrap ((k : Int) + 1) = (k : Int) + 1 := IntWalk.i64_in _ (by omega)
          have hlen : k < m2.buf.length := by have h := ho.is.buf.n; simp only at h; omega
          have hbl : xbN = m2.buf.length := ho.is.buf.n
          obtain ⟨g, hgA, hgB, hgs, EA, hfa⟩ := OwnE.elem ho.buf hlen
          simp only at hgA
          subst hgA
          have hcur := OwnE.tagged ho.buf (by omega)
          obtain ⟨cur, hcur⟩ := hcur
          have hgS : g ≠ S1 := fun e => by subst e; rw [hx1] at hcur; injection hcur with hcur; injection hcur with _ h2; exact absurd h2 (by decide)
          obtain ⟨-, -, -, -, q4, -⟩ := EA
          have hfr := hfa (k * 8 + 4)
          have HO := Kept.mk ho
          have HX := Kept.mk hx1
          have HBL := Kept.mk hb1
          have Y1 := fun j => cell_of_row wr S1 j _ _ _ hx1
          have hkn : k < xbN := hlt
          have hOS := Kept.mk (OwnE.setAt HO.out.buf hbl hlen (j := 4) (u := .int .i64 77) (e' := { m2.buf[k] with next := 77 }) (by decide) rfl)
          clear ho hx1 hb1 hcur hfa hbl
          go_wp2_with fail
          go_roundw
          case rel => exact ⟨k + 1, _, by go_num, by omega, CfOwn.setBuf HO.out g (k * 8 + 4) _ _ rfl hOS.out, heap_set_far HX.out hgS, Below.setCell HBL.out (p := ⟨g, k * 8 + 4, none⟩) hgB _⟩
          case measure => simp [intOf]; omega
        · have hki : ¬ (k : Int) < (xbN : Int) := by omega
          have HSTART := And.intro ho (And.intro hx1 hb1)
          clear hlt ho hx1 hb1
          generalize wr = wl at *
          have Y1 := fun j => cell_of_row wl S1 j _ _ _ HSTART.2.1
          go_wp2_with fail
          go_loopw [78] (fun i wr => ∃ (k : Nat) (m2 : Conf), i = .int .i64 ((k : Nat) : Int) ∧ k ≤ xsN ∧ CfOwn wr w11.heap.size ⟨⟨x0, x1, x2, x3, ⟨xmA, xmN, xmC⟩, ⟨xsA, xsN, xsC⟩, xpc⟩, ⟨xbA, xbN, xbC⟩, ⟨xqA, xqN, xqC⟩, xf⟩ m2 ∧ wr.heap[S1]? = some (.cells #[.int .i64 (x0), .int .i64 (x1), .int .i64 (x2), .int .i64 (x3), .slice xmA xmN xmC, .slice xsA xsN xsC, .int .i64 (xpc), .slice xbA xbN xbC, .slice xqA xqN xqC, .int .i64 (xf)] 41) ∧ Below w11.heap.size w11 wr) (fun i _ => xsN - (intOf i).toNat)
          case atStart => exact ⟨0, _, rfl, Nat.zero_le _, HSTART.1, HSTART.2.1, HSTART.2.2⟩
          case round =>
            obtain ⟨k, m2, rfl, hk, ho, hx1, hb1⟩ := hrel
            by_cases hlt : k < xsN
            · have hki : (k : Int) < (xsN : Int) := by omega
              have wk1 : IntKind.i64.wrap ((k : Int) + 1) = (k : Int) + 1 := IntWalk.i64_in _ (by omega)
              have hlen : k < m2.st.stack.length := by have h := ho.is.st.stack.n; simp only at h; omega
              obtain ⟨g, hgA, hgB, ⟨cur, hcur⟩, hcell, hfr, -⟩ := OwnI.elS ho.st.stack hlen 0
              simp only at hgA
              subst hgA
              have hgS : g ≠ S1 := fun e => by subst e; rw [hx1] at hcur; injection hcur with hcur; injection hcur with _ h2; exact absurd h2 (by decide)
              have HO := Kept.mk ho
              have HX := Kept.mk hx1
              have HBL := Kept.mk hb1
              have Y1 := fun j => cell_of_row wr S1 j _ _ _ hx1
              have hkn : k < xsN := hlt
              have hOS := Kept.mk (fun v : Int => own_set_int HO.out.st.stack k hlen v)
              clear ho hx1 hb1 hcur
              go_wp2_with fail
              go_roundw
              case rel => exact ⟨k + 1, _, by go_num, by omega, CfOwn.setStack HO.out g k _ _ rfl (hOS.out _), heap_set_far HX.out hgS, Below.setCell HBL.out (p := ⟨g, k, none⟩) hgB _⟩
              case measure => simp [intOf]; omega
            · have hki : ¬ (k : Int) < (xsN : Int) := by omega
              have HSTART := And.intro ho (And.intro hx1 hb1)
              clear hlt ho hx1 hb1
              generalize wr = wl at *
              have Y1 := fun j => cell_of_row wl S1 j _ _ _ HSTART.2.1
              have hb := HB11.out.trans (HSTART.2.2.mono HB11.out.size)
              have HB := Kept.mk hb
              have Y6 := fun j => cell_of_row wl w6.heap.size j _ _ _ (heap_keep XP.out hb)
              have Y9 := fun j => cell_of_row wl w9.heap.size j _ _ _ (heap_keep XC.out hb)
              simp only [Prg.cs] at Y6
              clear HSTART hb
              go_wp2_with fail
              refine (HCP.out wl HB.out).mono ?_
              rintro en wm ⟨cy, rfl, hcy, bm⟩
              obtain ⟨⟨y0, y1, y2, y3, ⟨ymA, ymN, ymC⟩, ⟨ysA, ysN, ysC⟩, ypc⟩, ⟨ybA, ybN, ybC⟩, ⟨yqA, yqN, yqC⟩, yf⟩ := cy
              have hcy := hcy.is
              have hb := HB.out.trans (bm.mono HB.out.size)
              clear Y6 Y9 Y1 bm HB
              have Y6 := fun j => cell_of_row wm w6.heap.size j _ _ _ (heap_keep XP.out hb)
              have Y9 := fun j => cell_of_row wm w9.heap.size j _ _ _ (heap_keep XC.out hb)
              simp only [Prg.cs] at Y6
              go_upto_region 22 with (fail)
              have bX := below_alloc_self wm (.cells #[.int .i64 (y0), .int .i64 (y1), .int .i64 (y2), .int .i64 (y3), .slice ymA ymN ymC, .slice ysA ysN ysC, .int .i64 (ypc), .slice ybA ybN ybC, .slice yqA yqN yqC, .int .i64 (yf)] 41)
              have hb := hb.trans (bX.mono hb.size)
              have X2 := heap_alloc_new wm (.cells #[.int .i64 (y0), .int .i64 (y1), .int .i64 (y2), .int .i64 (y3), .slice ymA ymN ymC, .slice ysA ysN ysC, .int .i64 (ypc), .slice ybA ybN ybC, .slice yqA yqN yqC, .int .i64 (yf)] 41)
              have hcy := hcy.past bX
              clear Y6 Y9 bX
              generalize wm.alloc (.cells #[.int .i64 (y0), .int .i64 (y1), .int .i64 (y2), .int .i64 (y3), .slice ymA ymN ymC, .slice ysA ysN ysC, .int .i64 (ypc), .slice ybA ybN ybC, .slice yqA yqN yqC, .int .i64 (yf)] 41) = wn at *
              obtain ⟨S2, hS2⟩ : ∃ S, wm.heap.size = S := ⟨_, rfl⟩
              rw [hS2] at X2 ⊢
              clear hS2
              have Y6 := fun j => cell_of_row wn w6.heap.size j _ _ _ (heap_keep XP.out hb)
              have Y9 := fun j => cell_of_row wn w9.heap.size j _ _ _ (heap_keep XC.out hb)
              simp only [Prg.cs] at Y6
              go_wp2_with fail
              refine (HCR.out wn hb).mono ?_
              rintro en wm ⟨cz, rfl, hcz, bm⟩
              obtain ⟨⟨z0, z1, z2, z3, ⟨zmA, zmN, zmC⟩, ⟨zsA, zsN, zsC⟩, zpc⟩, ⟨zbA, zbN, zbC⟩, ⟨zqA, zqN, zqC⟩, zf⟩ := cz
              have hb := hb.trans (bm.mono hb.size)
              have hcy := hcy.past bm
              have X2 := heap_keep X2 bm
              clear Y6 Y9 bm
              have Y9 := fun j => cell_of_row wm w9.heap.size j _ _ _ (heap_keep XC.out hb)
              go_upto_region 23 with (fail)
              have bX := below_alloc_self wm (.cells #[.int .i64 (z0), .int .i64 (z1), .int .i64 (z2), .int .i64 (z3), .slice zmA zmN zmC, .slice zsA zsN zsC, .int .i64 (zpc), .slice zbA zbN zbC, .slice zqA zqN zqC, .int .i64 (zf)] 41)
              have hb := hb.trans (bX.mono hb.size)
              have hcy := hcy.past bX
              have hcz := hcz.past bX
              have X2 := heap_keep X2 bX
              have X3 := heap_alloc_new wm (.cells #[.int .i64 (z0), .int .i64 (z1), .int .i64 (z2), .int .i64 (z3), .slice zmA zmN zmC, .slice zsA zsN zsC, .int .i64 (zpc), .slice zbA zbN zbC, .slice zqA zqN zqC, .int .i64 (zf)] 41)
              clear Y9 bX
              generalize wm.alloc (.cells #[.int .i64 (z0), .int .i64 (z1), .int .i64 (z2), .int .i64 (z3), .slice zmA zmN zmC, .slice zsA zsN zsC, .int .i64 (zpc), .slice zbA zbN zbC, .slice zqA zqN zqC, .int .i64 (zf)] 41) = wn at *
              obtain ⟨S3, hS3⟩ : ∃ S, wm.heap.size = S := ⟨_, rfl⟩
              rw [hS3] at X3 ⊢
              clear hS3
              have HY := Kept.mk hcy
              have HZ := Kept.mk hcz
              have HQS := Kept.mk hqs
              generalize q.isSome = bz at *
              have hbz : (bz == bz) = true := by cases bz <;> rfl
              have HB := Kept.mk hb
              have K2 := Kept.mk X2
              have K3 := Kept.mk X3
              have Y9 := fun j => cell_of_row wn w9.heap.size j _ _ _ (heap_keep XC.out hb)
              clear hcy hcz hqs hb X2 X3 HCP HCR
              go_wp2_with fail
              refine (HCO.out wn HB.out).mono ?_
              rintro en wm ⟨v2, rfl, o2, bm⟩
              obtain ⟨A2', c2', rfl, -, r2⟩ := OwnB.shape o2
              have hst := run_string (w := wm) (c := c2') r2 rfl
              have hb := HB.out.trans (bm.mono HB.out.size)
              have HY := Kept.mk (HY.out.past bm)
              have HZ := Kept.mk (HZ.out.past bm)
              have X2 := heap_keep K2.out bm
              have X3 := heap_keep K3.out bm
              have Y2 := fun j => cell_of_row wm S2 j _ _ _ X2
              have Y3 := fun j => cell_of_row wm S3 j _ _ _ X3
              have hLL : (putL L == putL L) = true := by simp
              clear Y9 o2 r2 bm K2 K3 X2 X3 HB
              go_wp2_with fail
              have HSM : Calls Try.prog 30 #[.agg #[.int .i64 (y0), .int .i64 (y1), .int .i64 (y2), .int .i64 (y3), .slice ymA ymN ymC, .slice ysA ysN ysC, .int .i64 (ypc), .slice ybA ybN ybC, .slice yqA yqN yqC, .int .i64 (yf)], .agg #[.int .i64 (z0), .int .i64 (z1), .int .i64 (z2), .int .i64 (z3), .slice zmA zmN zmC, .slice zsA zsN zsC, .int .i64 (zpc), .slice zbA zbN zbC, .slice zqA zqN zqC, .int .i64 (zf)]] wm fun en w' => en = .returned (.bool true) ∧ Below wm.heap.size wm w' := by
                have h := same9 ⟨⟨y0, y1, y2, y3, ⟨ymA, ymN, ymC⟩, ⟨ysA, ysN, ysC⟩, ypc⟩, ⟨ybA, ybN, ybC⟩, ⟨yqA, yqN, yqC⟩, yf⟩ ⟨⟨z0, z1, z2, z3, ⟨zmA, zmN, zmC⟩, ⟨zsA, zsN, zsC⟩, zpc⟩, ⟨zbA, zbN, zbC⟩, ⟨zqA, zqN, zqC⟩, zf⟩ _ _ wm HY.out HZ.out HQS.out.1 HQS.out.2.1 HQS.out.2.2.1 HQS.out.2.2.2 HQS.out.1 HQS.out.2.1 HQS.out.2.2.1 HQS.out.2.2.2
                rw [decide_eq_true rfl] at h
                exact h
              refine HSM.mono ?_
              rintro en wn ⟨rfl, bn⟩
              have HB := Kept.mk (hb.trans (bn.mono hb.size))
              clear Y2 Y3 hst hb bn HY HZ HSM
              go_wp2_with fail
              refine (HAW.out wn).mono ?_
              rintro en wm ⟨rfl, bm⟩
              have WX := Kept.mk ((W10.out.trans (HB.out.mono W10.out.size)).trans (bm.mono (by have := HB.out.size; have := W10.out.size; omega)))
              clear bm HB
              go_wp2_with fail
              go_ret
              exact ⟨rfl, WX.out⟩
theorem rtown_law (A2 : Option Addr) (c2 : Nat) (mk : List Int) (A3 : Option Addr) (c3 : Nat) (l : List Int) (A4 : Option Addr) (c4 : Nat) (wk : List Int) (w : World) (_hc2 : mk.length ≤ c2) (_hm2 : c2 ≤ maxLen) (hr2 : RdI w A2 mk) (_ok2 : ∀ x ∈ mk, -9223372036854775808 ≤ x ∧ x ≤ 9223372036854775807) (_hc3 : l.length ≤ c3) (_hm3 : c3 ≤ maxLen) (hr3 : RdI w A3 l) (_ok3 : ∀ x ∈ l, -9223372036854775808 ≤ x ∧ x ≤ 9223372036854775807) (_hc4 : wk.length ≤ c4) (_hm4 : c4 ≤ maxLen) (hr4 : RdI w A4 wk) (_ok4 : ∀ x ∈ wk, -9223372036854775808 ≤ x ∧ x ≤ 9223372036854775807) :
    Calls Try.prog 6 #[.slice A2 mk.length c2, .slice A3 l.length c3, .slice A4 wk.length c4] w (SaysTrue w) := rtown_walk A2 c2 mk A3 c3 l A4 c4 wk w hr2 hr3 hr4
end Go.Proofs.Ytchldbkjapnlcaa
