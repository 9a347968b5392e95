/- The law FetcTells: how many ways there are to fetch, and what each begins, is as the document says. -/
import Derived.Test.YtchldbkjapnlcaaJt
import Derived.Test.YtchldbkjapnlcaaJo
import Derived.Test.YtchldbkjapnlcaaJq
import Derived.Test.YtchldbkjapnlcaaJl
import Derived.Test.YtchldbkjapnlcaaJs
import Derived.Deep.DeepCutAuto
set_option linter.unusedVariables false
set_option linter.unusedSimpArgs false
namespace Go.Proofs.Ytchldbkjapnlcaa
open Go.RowKit

theorem fetchQ_small {w : World} {p : Prg} {il : List Inst} {c : Cnf} {m : Conf} {L k : Nat} (h : Mach w p il c m L k) (hf : Fit il m) (g : Int) :
    ((fetchQ p.window il m g).getD Conf.zero).st.mem.length ≤ 1000 ∧ ((fetchQ p.window il m g).getD Conf.zero).st.stack.length ≤ 1000 ∧ ((fetchQ p.window il m g).getD Conf.zero).buf.length ≤ 1000 ∧ ((fetchQ p.window il m g).getD Conf.zero).rsb.length ≤ 1000 := by
  unfold fetchQ
  split
  · rename_i hg
    have hi := inv_fetch h.ok h.inv g hg.1 hg.2
    have := inv_fit h.ok hi (by have := h.kl; omega) h.ll
    exact ⟨this.ml, this.sl, this.bl, this.rl⟩
  · exact ⟨by decide, by decide, by decide, by decide⟩
set_option maxRecDepth 100000 in
set_option maxHeartbeats 3000000 in
theorem ftells_walk (A2 : Option Addr) (c2 : Nat) (mk : List Int) (A3 : Option Addr) (c3 : Nat) (l : List Int) (A4 : Option Addr) (c4 : Nat) (wk : List Int) (raw : Int) (w : World) (hr2 : RdI w A2 mk) (hr3 : RdI w A3 l) (hr4 : RdI w A4 wk) :
    Calls Try.prog 12 #[.slice A2 mk.length c2, .slice A3 l.length c3, .slice A4 wk.length c4, .int .i64 raw] w (SaysTrue w) := by
  have HAW := Kept.mk awake14
  have HR2 := Kept.mk hr2
  have HR3 := Kept.mk hr3
  have HR4 := Kept.mk hr4
  clear hr2 hr3 hr4
  go_enter Try.func12, Try.ntmps12
  go_wp2_with fail
  refine (make_at A2 mk mk.length c2 w rfl HR2.out).mono ?_
  rintro en w6 ⟨p, il, ml, rfl, hmk, b6⟩
  have W6 := Kept.mk b6
  obtain ⟨pmA, pmC, hpm, -, -⟩ := hmk.mem
  obtain ⟨plA, plN, plC, hpl⟩ := hmk.lab
  obtain ⟨pW, pwin, pfuel, pr0, pr1, pr2, pr3, pmems, plabels, pA, pN, pC⟩ := p
  simp only at hpm hpl
  subst hpm hpl
  have HMK := Kept.mk hmk
  clear hmk b6
  obtain ⟨HPM, hPM⟩ : ∃ x : Kept (ProgOk pW pwin il), x = x := ⟨⟨make_prog HMK.out⟩, rfl⟩
  clear hPM
  go_wp2_with fail
  have ba := below_alloc_self w6 (.cells (Prg.cs (⟨pW, pwin, pfuel, pr0, pr1, pr2, pr3, .slice pmA ml.length pmC, .slice plA plN plC, pA, pN, pC⟩ : Prg)).toArray 33)
  refine (states_mach (⟨pW, pwin, pfuel, pr0, pr1, pr2, pr3, .slice pmA ml.length pmC, .slice plA plN plC, pA, pN, pC⟩ : Prg) il ml A3 l l.length c3 (w6.alloc (.cells (Prg.cs (⟨pW, pwin, pfuel, pr0, pr1, pr2, pr3, .slice pmA ml.length pmC, .slice plA plN plC, pA, pN, pC⟩ : Prg)).toArray 33)) rfl (HMK.out.past ba) (HR3.out.past (W6.out.trans (ba.mono W6.out.size)))).mono ?_
  rintro en w7 ⟨s, t, ms, mt, rfl, hs, ht, b7⟩
  have XP := Kept.mk (heap_keep (heap_alloc_new w6 (.cells (Prg.cs (⟨pW, pwin, pfuel, pr0, pr1, pr2, pr3, .slice pmA ml.length pmC, .slice plA plN plC, pA, pN, pC⟩ : Prg)).toArray 33)) b7)
  have W7 := Kept.mk ((W6.out.trans (ba.mono W6.out.size)).trans (b7.mono (by have := W6.out.size; simp; omega)))
  have HMK := Kept.mk ((HMK.out.past ba).past b7)
  have HS := Kept.mk hs
  have HT := Kept.mk ht
  clear hs ht b7 ba
  obtain ⟨s0, s1, s2, s3, ⟨sA, sN, sC⟩, ⟨uA, uN, uC⟩, s6⟩ := s
  obtain ⟨t0, t1, t2, t3, ⟨tA, tN, tC⟩, ⟨vA, vN, vC⟩, t6⟩ := t
  go_upto_region 3 with (fail)
  have bb := (below_alloc_self w7 (.cells #[.int .i64 s0, .int .i64 s1, .int .i64 s2, .int .i64 s3, .slice sA sN sC, .slice uA uN uC, .int .i64 s6] 36)).alloc (by simp) (.cells #[.int .i64 t0, .int .i64 t1, .int .i64 t2, .int .i64 t3, .slice tA tN tC, .slice vA vN vC, .int .i64 t6] 36)
  have XS := Kept.mk ((heap_alloc_old _ _ (by simp)).trans (heap_alloc_new w7 (.cells #[.int .i64 s0, .int .i64 s1, .int .i64 s2, .int .i64 s3, .slice sA sN sC, .slice uA uN uC, .int .i64 s6] 36)) : ((w7.alloc (.cells #[.int .i64 s0, .int .i64 s1, .int .i64 s2, .int .i64 s3, .slice sA sN sC, .slice uA uN uC, .int .i64 s6] 36)).alloc (.cells #[.int .i64 t0, .int .i64 t1, .int .i64 t2, .int .i64 t3, .slice tA tN tC, .slice vA vN vC, .int .i64 t6] 36)).heap[w7.heap.size]? = some (.cells #[.int .i64 s0, .int .i64 s1, .int .i64 s2, .int .i64 s3, .slice sA sN sC, .slice uA uN uC, .int .i64 s6] 36))
  have XT := Kept.mk (heap_alloc2_new w7 (.cells #[.int .i64 s0, .int .i64 s1, .int .i64 s2, .int .i64 s3, .slice sA sN sC, .slice uA uN uC, .int .i64 s6] 36) (.cells #[.int .i64 t0, .int .i64 t1, .int .i64 t2, .int .i64 t3, .slice tA tN tC, .slice vA vN vC, .int .i64 t6] 36))
  have XP := Kept.mk (heap_keep XP.out bb)
  have W8 := Kept.mk (W7.out.trans (bb.mono W7.out.size))
  have HMK := Kept.mk (HMK.out.past bb)
  have HS := Kept.mk (HS.out.past bb)
  have HT := Kept.mk (HT.out.past bb)
  clear bb
  generalize (w7.alloc (.cells #[.int .i64 s0, .int .i64 s1, .int .i64 s2, .int .i64 s3, .slice sA sN sC, .slice uA uN uC, .int .i64 s6] 36)).alloc (.cells #[.int .i64 t0, .int .i64 t1, .int .i64 t2, .int .i64 t3, .slice tA tN tC, .slice vA vN vC, .int .i64 t6] 36) = w8 at *
  have Y6 := fun j => cell_of_row w8 w6.heap.size j _ _ _ XP.out
  have Y7 := fun j => cell_of_row w8 w7.heap.size j _ _ _ XS.out
  simp only [Prg.cs] at Y6
  go_wp2_with fail
  refine (walk_mach (⟨pW, pwin, pfuel, pr0, pr1, pr2, pr3, .slice pmA ml.length pmC, .slice plA plN plC, pA, pN, pC⟩ : Prg) il ml ⟨s0, s1, s2, s3, ⟨sA, sN, sC⟩, ⟨uA, uN, uC⟩, s6⟩ ms A4 wk wk.length c4 w8 rfl HMK.out HS.out (HR4.out.past W8.out)).mono ?_
  rintro en w9 ⟨c, m, dv, out, k, rfl, hm, hd, _, b9⟩
  obtain ⟨dA, dC, rfl, -, -⟩ := hd.shape
  have W9 := Kept.mk (W8.out.trans (b9.mono W8.out.size))
  have XP := Kept.mk (heap_keep XP.out b9)
  have HM := Kept.mk hm
  clear hd b9 hm Y6 Y7 HS HMK XS HT XT
  obtain ⟨⟨r0, r1, r2, r3, ⟨mA, mN, mC⟩, ⟨kA, kN, kC⟩, cpc⟩, ⟨bA, bN, bC⟩, ⟨qA, qN, qC⟩, fin⟩ := c
  have hbn : bN = m.buf.length := HM.out.cf.buf.n
  have hkn : kN = m.st.stack.length := HM.out.cf.st.stack.n
  have hmn : mN = m.st.mem.length := HM.out.cf.st.mem.n
  have hqn : qN = m.rsb.length := HM.out.cf.rsb.n
  subst hbn hkn hmn hqn
  have HF := Kept.mk (inv_fit HM.out.ok HM.out.inv (Nat.le_trans HM.out.kl (by decide)) HM.out.ll)
  go_upto_region 4 with (fail)
  have bc := below_alloc_self w9 (.cells #[.int .i64 r0, .int .i64 r1, .int .i64 r2, .int .i64 r3, .slice mA m.st.mem.length mC, .slice kA m.st.stack.length kC, .int .i64 cpc, .slice bA m.buf.length bC, .slice qA m.rsb.length qC, .int .i64 fin] 41)
  have XC := Kept.mk (heap_alloc_new w9 (.cells #[.int .i64 r0, .int .i64 r1, .int .i64 r2, .int .i64 r3, .slice mA m.st.mem.length mC, .slice kA m.st.stack.length kC, .int .i64 cpc, .slice bA m.buf.length bC, .slice qA m.rsb.length qC, .int .i64 fin] 41))
  have XP := Kept.mk (heap_keep XP.out bc)
  have W10 := Kept.mk (W9.out.trans (bc.mono W9.out.size))
  have HM := Kept.mk (HM.out.past bc)
  clear bc
  generalize w9.alloc (.cells #[.int .i64 r0, .int .i64 r1, .int .i64 r2, .int .i64 r3, .slice mA m.st.mem.length mC, .slice kA m.st.stack.length kC, .int .i64 cpc, .slice bA m.buf.length bC, .slice qA m.rsb.length qC, .int .i64 fin] 41) = w10 at *
  have hgb := guesses_bounds pwin il m
  have HGP := Kept.mk (fun w1 (hb : Below w10.heap.size w10 w1) => pguesses_any (⟨pW, pwin, pfuel, pr0, pr1, pr2, pr3, .slice pmA ml.length pmC, .slice plA plN plC, pA, pN, pC⟩ : Prg) il ⟨⟨r0, r1, r2, r3, ⟨mA, m.st.mem.length, mC⟩, ⟨kA, m.st.stack.length, kC⟩, cpc⟩, ⟨bA, m.buf.length, bC⟩, ⟨qA, m.rsb.length, qC⟩, fin⟩ m w1 (HM.out.past hb).pi (HM.out.past hb).cf (by have := HF.out.bl; omega) (by have := HF.out.rl; omega))
  have HGR := Kept.mk (fun w1 (hb : Below w10.heap.size w10 w1) => guesses_ref (⟨pW, pwin, pfuel, pr0, pr1, pr2, pr3, .slice pmA ml.length pmC, .slice plA plN plC, pA, pN, pC⟩ : Prg) il ⟨⟨r0, r1, r2, r3, ⟨mA, m.st.mem.length, mC⟩, ⟨kA, m.st.stack.length, kC⟩, cpc⟩, ⟨bA, m.buf.length, bC⟩, ⟨qA, m.rsb.length, qC⟩, fin⟩ m w1 (HM.out.past hb).pi (HM.out.past hb).cf (by have := HF.out.bl; omega) (by have := HF.out.rl; omega))
  have HFP := Kept.mk (fun (g : Int) w1 (hb : Below w10.heap.size w10 w1) => pfetch_any (⟨pW, pwin, pfuel, pr0, pr1, pr2, pr3, .slice pmA ml.length pmC, .slice plA plN plC, pA, pN, pC⟩ : Prg) il ⟨⟨r0, r1, r2, r3, ⟨mA, m.st.mem.length, mC⟩, ⟨kA, m.st.stack.length, kC⟩, cpc⟩, ⟨bA, m.buf.length, bC⟩, ⟨qA, m.rsb.length, qC⟩, fin⟩ m g w1 (HM.out.past hb).pi (HM.out.past hb).cf HF.out.ml HF.out.sl HF.out.bl HF.out.rl HF.out.pc)
  have HFR := Kept.mk (fun (g : Int) w1 (hb : Below w10.heap.size w10 w1) => rfetch_any (⟨pW, pwin, pfuel, pr0, pr1, pr2, pr3, .slice pmA ml.length pmC, .slice plA plN plC, pA, pN, pC⟩ : Prg) il ⟨⟨r0, r1, r2, r3, ⟨mA, m.st.mem.length, mC⟩, ⟨kA, m.st.stack.length, kC⟩, cpc⟩, ⟨bA, m.buf.length, bC⟩, ⟨qA, m.rsb.length, qC⟩, fin⟩ m g w1 (HM.out.past hb).pi (HM.out.past hb).cf (HM.out.past hb).ty HF.out.bl HF.out.sl HF.out.rl HF.out.pc)
  have HCO := Kept.mk (fun w1 (hb : Below w10.heap.size w10 w1) => code9 ⟨⟨r0, r1, r2, r3, ⟨mA, m.st.mem.length, mC⟩, ⟨kA, m.st.stack.length, kC⟩, cpc⟩, ⟨bA, m.buf.length, bC⟩, ⟨qA, m.rsb.length, qC⟩, fin⟩ m w1 (HM.out.past hb).cf HF.out.ml HF.out.sl HF.out.bl HF.out.rl)
  have HQF : Kept (∀ g, ((fetchQ pwin il m g).getD Conf.zero).st.mem.length ≤ 1000 ∧ ((fetchQ pwin il m g).getD Conf.zero).st.stack.length ≤ 1000 ∧ ((fetchQ pwin il m g).getD Conf.zero).buf.length ≤ 1000 ∧ ((fetchQ pwin il m g).getD Conf.zero).rsb.length ≤ 1000) := ⟨fun g => fetchQ_small HM.out HF.out g⟩
  have hil := HM.out.ok.len
  generalize cfInts m = L at HCO
  generalize guessesOf pwin il m = n at *
  have hn0 : 0 ≤ n := by omega
  have hn1 : n ≤ 1002 := by omega
  have wn : IntKind.i64.wrap (n + 1) = n + 1 := IntWalk.i64_in _ (by omega)
  clear hgb hil
  have Y6 := fun j => cell_of_row w10 w6.heap.size j _ _ _ XP.out
  have Y9 := fun j => cell_of_row w10 w9.heap.size j _ _ _ XC.out
  simp only [Prg.cs] at Y6
  go_wp2_with fail
  refine (HGP.out w10 (Below.refl _ _)).mono ?_
  rintro en w11 ⟨rfl, b11⟩
  have HB := Kept.mk b11
  have Y6 := fun j => cell_of_row w11 w6.heap.size j _ _ _ (heap_keep XP.out b11)
  have Y9 := fun j => cell_of_row w11 w9.heap.size j _ _ _ (heap_keep XC.out b11)
  simp only [Prg.cs] at Y6
  clear b11
  go_wp2_with fail
  refine (HGR.out w11 HB.out).mono ?_
  rintro en w12 ⟨rfl, b12⟩
  have hb := HB.out.trans (b12.mono HB.out.size)
  have HB := Kept.mk hb
  have Y6 := fun j => cell_of_row w12 w6.heap.size j _ _ _ (heap_keep XP.out hb)
  have Y9 := fun j => cell_of_row w12 w9.heap.size j _ _ _ (heap_keep XC.out hb)
  simp only [Prg.cs] at Y6
  clear b12 hb
  go_wp2_with fail
  refine (HCO.out w12 HB.out).mono ?_
  rintro en w13 ⟨vw, rfl, ow, b13⟩
  obtain ⟨wA, wC, rfl, -, rw13⟩ := OwnB.shape ow
  have hb := HB.out.trans (b13.mono HB.out.size)
  have HB13 := Kept.mk hb
  have HWS := Kept.mk rw13
  clear b13 hb ow rw13 Y6 Y9 HGP HGR HB
  go_wp2_with fail
  go_loopw [16] (fun v wr => ∃ g : Int, v = .int .i64 g ∧ -1 ≤ g ∧ g ≤ n + 2 ∧ Below w13.heap.size w13 wr) (fun v _ => (n + 2 - intOf v).toNat)
  case atStart => exact ⟨-1, rfl, by omega, by omega, Below.refl _ _⟩
  case round =>
    obtain ⟨g, rfl, hg0, hg1, hbr⟩ := hrel
    have HBR := Kept.mk hbr
    clear hbr
    have HB := Kept.mk (HB13.out.trans (HBR.out.mono HB13.out.size))
    have Y6 := fun j => cell_of_row wr w6.heap.size j _ _ _ (heap_keep XP.out HB.out)
    have Y9 := fun j => cell_of_row wr w9.heap.size j _ _ _ (heap_keep XC.out HB.out)
    simp only [Prg.cs] at Y6
    by_cases hle : g ≤ n + 1
    · have wg : IntKind.i64.wrap (g + 1) = g + 1 := IntWalk.i64_in _ (by omega)
      by_cases heq : g = n + 1
      · have hqe : (g == n + 1) = true := by simpa using heq
        go_wp2_with fail
        refine (HFP.out raw wr HB.out).mono ?_
        rintro en w11 ⟨cx, rfl, hcx, b11⟩
        obtain ⟨⟨x0, x1, x2, x3, ⟨xmA, xmN, xmC⟩, ⟨xsA, xsN, xsC⟩, xpc⟩, ⟨xbA, xbN, xbC⟩, ⟨xqA, xqN, xqC⟩, xf⟩ := cx
        have hqs := HQF.out raw
        have HFR' := Kept.mk (HFR.out raw)
        generalize fetchQ pwin il m raw = q at hqs hcx HFR' ⊢
        have hb := HB.out.trans (b11.mono HB.out.size)
        have HBr := Kept.mk (HBR.out.trans (b11.mono HBR.out.size))
        have XP1 := heap_keep XP.out hb
        have XC1 := heap_keep XC.out hb
        have Y6 := fun j => cell_of_row w11 w6.heap.size j _ _ _ XP1
        have Y9 := fun j => cell_of_row w11 w9.heap.size j _ _ _ XC1
        simp only [Prg.cs] at Y6
        clear b11
        go_upto_region 15 with (fail)
        have bX := below_alloc_self w11 (.cells #[.int .i64 (x0), .int .i64 (x1), .int .i64 (x2), .int .i64 (x3), .slice xmA xmN xmC, .slice xsA xsN xsC, .int .i64 (xpc), .slice xbA xbN xbC, .slice xqA xqN xqC, .int .i64 (xf)] 41)
        have hb := hb.trans (bX.mono hb.size)
        have HBr := Kept.mk (HBr.out.trans (bX.mono HBr.out.size))
        have hcx := hcx.past bX
        have X1 := heap_alloc_new w11 (.cells #[.int .i64 (x0), .int .i64 (x1), .int .i64 (x2), .int .i64 (x3), .slice xmA xmN xmC, .slice xsA xsN xsC, .int .i64 (xpc), .slice xbA xbN xbC, .slice xqA xqN xqC, .int .i64 (xf)] 41)
        have hs1 : w11.heap.size < (w11.alloc (.cells #[.int .i64 (x0), .int .i64 (x1), .int .i64 (x2), .int .i64 (x3), .slice xmA xmN xmC, .slice xsA xsN xsC, .int .i64 (xpc), .slice xbA xbN xbC, .slice xqA xqN xqC, .int .i64 (xf)] 41)).heap.size := by simp
        clear Y6 Y9 XP1 XC1 bX
        generalize w11.alloc (.cells #[.int .i64 (x0), .int .i64 (x1), .int .i64 (x2), .int .i64 (x3), .slice xmA xmN xmC, .slice xsA xsN xsC, .int .i64 (xpc), .slice xbA xbN xbC, .slice xqA xqN xqC, .int .i64 (xf)] 41) = w12 at *
        obtain ⟨S1, hS1⟩ : ∃ S, w11.heap.size = S := ⟨_, rfl⟩
        rw [hS1] at X1 hs1 ⊢
        clear hS1
        have XP1 := heap_keep XP.out hb
        have XC1 := heap_keep XC.out hb
        have Y6 := fun j => cell_of_row w12 w6.heap.size j _ _ _ XP1
        have Y9 := fun j => cell_of_row w12 w9.heap.size j _ _ _ XC1
        simp only [Prg.cs] at Y6
        go_wp2_with fail
        refine (HFR'.out w12 hb).mono ?_
        rintro en w11 ⟨cy, rfl, hcy, b11⟩
        obtain ⟨⟨y0, y1, y2, y3, ⟨ymA, ymN, ymC⟩, ⟨ysA, ysN, ysC⟩, ypc⟩, ⟨ybA, ybN, ybC⟩, ⟨yqA, yqN, yqC⟩, yf⟩ := cy
        have hb := hb.trans (b11.mono hb.size)
        have HBr := Kept.mk (HBr.out.trans (b11.mono HBr.out.size))
        have hcx := hcx.past b11
        have X1 := heap_keep X1 b11
        have hs1 : S1 < w11.heap.size := by have := b11.size; omega
        clear Y6 Y9 XP1 XC1 b11
        have Y9 := fun j => cell_of_row w11 w9.heap.size j _ _ _ (heap_keep XC.out hb)
        go_upto_region 16 with (fail)
        have bX := below_alloc_self w11 (.cells #[.int .i64 (y0), .int .i64 (y1), .int .i64 (y2), .int .i64 (y3), .slice ymA ymN ymC, .slice ysA ysN ysC, .int .i64 (ypc), .slice ybA ybN ybC, .slice yqA yqN yqC, .int .i64 (yf)] 41)
        have hb := hb.trans (bX.mono hb.size)
        have HBr := Kept.mk (HBr.out.trans (bX.mono HBr.out.size))
        have hcx := hcx.past bX
        have hcy := hcy.past bX
        have X1 := heap_keep X1 bX
        have X2 := heap_alloc_new w11 (.cells #[.int .i64 (y0), .int .i64 (y1), .int .i64 (y2), .int .i64 (y3), .slice ymA ymN ymC, .slice ysA ysN ysC, .int .i64 (ypc), .slice ybA ybN ybC, .slice yqA yqN yqC, .int .i64 (yf)] 41)
        clear Y9 bX
        generalize w11.alloc (.cells #[.int .i64 (y0), .int .i64 (y1), .int .i64 (y2), .int .i64 (y3), .slice ymA ymN ymC, .slice ysA ysN ysC, .int .i64 (ypc), .slice ybA ybN ybC, .slice yqA yqN yqC, .int .i64 (yf)] 41) = w14 at *
        obtain ⟨S2, hS2⟩ : ∃ S, w11.heap.size = S := ⟨_, rfl⟩
        rw [hS2] at X2 ⊢
        clear hS2
        have XC1 := heap_keep XC.out hb
        have X1K : Kept (∀ w1, Below w14.heap.size w14 w1 → CellsAt w1 S1 0 [.int .i64 (x0), .int .i64 (x1), .int .i64 (x2), .int .i64 (x3), .slice xmA xmN xmC, .slice xsA xsN xsC, .int .i64 (xpc), .slice xbA xbN xbC, .slice xqA xqN xqC, .int .i64 (xf)]) := ⟨fun w1 hb => CellsAt.of_block (heap_keep X1 hb)⟩
        have X2K : Kept (∀ w1, Below w14.heap.size w14 w1 → CellsAt w1 S2 0 [.int .i64 (y0), .int .i64 (y1), .int .i64 (y2), .int .i64 (y3), .slice ymA ymN ymC, .slice ysA ysN ysC, .int .i64 (ypc), .slice ybA ybN ybC, .slice yqA yqN yqC, .int .i64 (yf)]) := ⟨fun w1 hb => CellsAt.of_block (heap_keep X2 hb)⟩
        have XCK : Kept (∀ w1, Below w14.heap.size w14 w1 → CellsAt w1 w9.heap.size 0 [.int .i64 (r0), .int .i64 (r1), .int .i64 (r2), .int .i64 (r3), .slice mA m.st.mem.length mC, .slice kA m.st.stack.length kC, .int .i64 (cpc), .slice bA m.buf.length bC, .slice qA m.rsb.length qC, .int .i64 (fin)]) := ⟨fun w1 hb => CellsAt.of_block (heap_keep XC1 hb)⟩
        have HSAME : Kept (∀ w1, Below w14.heap.size w14 w1 → Calls Try.prog 30 #[.agg #[.int .i64 (x0), .int .i64 (x1), .int .i64 (x2), .int .i64 (x3), .slice xmA xmN xmC, .slice xsA xsN xsC, .int .i64 (xpc), .slice xbA xbN xbC, .slice xqA xqN xqC, .int .i64 (xf)], .agg #[.int .i64 (y0), .int .i64 (y1), .int .i64 (y2), .int .i64 (y3), .slice ymA ymN ymC, .slice ysA ysN ysC, .int .i64 (ypc), .slice ybA ybN ybC, .slice yqA yqN yqC, .int .i64 (yf)]] w1 fun en w' => en = .returned (.bool true) ∧ Below w1.heap.size w1 w') := ⟨fun w1 hb => by
          have := same9 ⟨⟨x0, x1, x2, x3, ⟨xmA, xmN, xmC⟩, ⟨xsA, xsN, xsC⟩, xpc⟩, ⟨xbA, xbN, xbC⟩, ⟨xqA, xqN, xqC⟩, xf⟩ ⟨⟨y0, y1, y2, y3, ⟨ymA, ymN, ymC⟩, ⟨ysA, ysN, ysC⟩, ypc⟩, ⟨ybA, ybN, ybC⟩, ⟨yqA, yqN, yqC⟩, yf⟩ _ _ w1 (hcx.past hb) (hcy.past hb) hqs.1 hqs.2.1 hqs.2.2.1 hqs.2.2.2 hqs.1 hqs.2.1 hqs.2.2.1 hqs.2.2.2
          rw [decide_eq_true rfl] at this
          exact this⟩
        have HCODE : Kept (∀ w1, Below w14.heap.size w14 w1 → Calls Try.prog 34 #[.agg #[.int .i64 (r0), .int .i64 (r1), .int .i64 (r2), .int .i64 (r3), .slice mA m.st.mem.length mC, .slice kA m.st.stack.length kC, .int .i64 (cpc), .slice bA m.buf.length bC, .slice qA m.rsb.length qC, .int .i64 (fin)]] w1 (GivesB w1 (putL L))) := ⟨fun w1 hb1 => HCO.out w1 (hb.trans (hb1.mono hb.size))⟩
        have HWAS : Kept (RdB w14 wA (putL L)) := ⟨HWS.out.past HBr.out⟩
        generalize q.isSome = bz at *
        have hbz : (bz != bz) = false := by cases bz <;> rfl
        clear hqs hcx hcy X1 X2 XC1 hs1 HFR'
        refine region_tell (w14.heap.size) (G := fun _ => True) (ts := [
            .is (Value.bool bz),
            .is (Value.bool bz),
            .is (Value.bool false),
            .is (Value.bool false),
            .is (Value.agg #[.int .i64 (x0), .int .i64 (x1), .int .i64 (x2), .int .i64 (x3), .slice xmA xmN xmC, .slice xsA xsN xsC, .int .i64 (xpc), .slice xbA xbN xbC, .slice xqA xqN xqC, .int .i64 (xf)]),
            .is (Value.agg #[.int .i64 (y0), .int .i64 (y1), .int .i64 (y2), .int .i64 (y3), .slice ymA ymN ymC, .slice ysA ysN ysC, .int .i64 (ypc), .slice ybA ybN ybC, .slice yqA yqN yqC, .int .i64 (yf)]),
            .draws (.bool true),
            .is (Value.bool false),
            .is (Value.bool false),
            .is (Value.bool false),
            .is (Value.agg #[.int .i64 (r0), .int .i64 (r1), .int .i64 (r2), .int .i64 (r3), .slice mA m.st.mem.length mC, .slice kA m.st.stack.length kC, .int .i64 (cpc), .slice bA m.buf.length bC, .slice qA m.rsb.length qC, .int .i64 (fin)]),
            .makes (fun v w' => OwnB w' w14.heap.size v (putL L)),
            .is (.string ⟨(putL L).toArray⟩),
            .is (Value.slice wA ((putL L).length) wC),
            .is (.string ⟨(putL L).toArray⟩),
            .is (.bool false),
            .is (Value.bool false)])
          (fin := []) (cs := []) (by kernel_rfl) rfl (by kernel_rfl) (by kernel_rfl)
          ⟨trivial, trivial, trivial, trivial, trivial, trivial, trivial, trivial, trivial, trivial, trivial, (fun _ _ _ h hb => OwnB.past h hb), trivial, trivial, trivial, trivial, trivial, trivial⟩ (fun _ _ _ _ => trivial) (by simp) (by simp) trivial
          ⟨?_, ?_, ?_, ?_, ?_, ?_, ?_, ?_, ?_, ?_, ?_, ?_, ?_, ?_, ?_, ?_, ?_, trivial⟩ ?_
        · intro vals w1 hB _ hd
          clear hd
          refine one_value (v := Value.bool bz) rfl ?_ (post_is rfl)
          kernel_rfl
        · intro vals w1 hB _ hd
          clear hd
          refine one_value (v := Value.bool bz) rfl ?_ (post_is rfl)
          kernel_rfl
        · intro vals w1 hB _ hd
          clear hd
          refine one_value (v := Value.bool false) rfl ?_ (post_is rfl)
          exact Eq.trans (b := .ok (.value (.bool ((bz) != (bz)))) w1) (by kernel_rfl) (by rw [hbz])
        · intro vals w1 hB _ hd
          clear hd
          refine one_value (v := Value.bool false) rfl ?_ (post_is rfl)
          kernel_rfl
        · intro vals w1 hB _ hd
          clear hd
          refine one_value_g (v := Value.agg #[.int .i64 (x0), .int .i64 (x1), .int .i64 (x2), .int .i64 (x3), .slice xmA xmN xmC, .slice xsA xsN xsC, .int .i64 (xpc), .slice xbA xbN xbC, .slice xqA xqN xqC, .int .i64 (xf)]) (by kernel_rfl) ?_ (post_is rfl)
          exact exec_load_row rfl (b := S1) (off := 0) (by kernel_rfl) [.int .i64 (x0), .int .i64 (x1), .int .i64 (x2), .int .i64 (x3), .slice xmA xmN xmC, .slice xsA xsN xsC, .int .i64 (xpc), .slice xbA xbN xbC, .slice xqA xqN xqC, .int .i64 (xf)] (X1K.out w1 hB) Try.underlying41 rfl (by kernel_rfl)
        · intro vals w1 hB _ hd
          clear hd
          refine one_value_g (v := Value.agg #[.int .i64 (y0), .int .i64 (y1), .int .i64 (y2), .int .i64 (y3), .slice ymA ymN ymC, .slice ysA ysN ysC, .int .i64 (ypc), .slice ybA ybN ybC, .slice yqA yqN yqC, .int .i64 (yf)]) (by kernel_rfl) ?_ (post_is rfl)
          exact exec_load_row rfl (b := S2) (off := 0) (by kernel_rfl) [.int .i64 (y0), .int .i64 (y1), .int .i64 (y2), .int .i64 (y3), .slice ymA ymN ymC, .slice ysA ysN ysC, .int .i64 (ypc), .slice ybA ybN ybC, .slice yqA yqN yqC, .int .i64 (yf)] (X2K.out w1 hB) Try.underlying41 rfl (by kernel_rfl)
        · intro vals w1 hB _ hd
          clear hd
          refine one_calls_g (f := 30) (args := #[.agg #[.int .i64 (x0), .int .i64 (x1), .int .i64 (x2), .int .i64 (x3), .slice xmA xmN xmC, .slice xsA xsN xsC, .int .i64 (xpc), .slice xbA xbN xbC, .slice xqA xqN xqC, .int .i64 (xf)], .agg #[.int .i64 (y0), .int .i64 (y1), .int .i64 (y2), .int .i64 (y3), .slice ymA ymN ymC, .slice ysA ysN ysC, .int .i64 (ypc), .slice ybA ybN ybC, .slice yqA yqN yqC, .int .i64 (yf)]]) (w1 := w1) (by kernel_rfl) (by kernel_rfl) ?_
          refine (HSAME.out w1 hB).mono ?_
          rintro e1 w3 ⟨rfl, hb⟩
          exact ⟨_, rfl, post_draws rfl hb⟩
        · intro vals w1 hB _ hd
          clear hd
          refine one_value_g (v := Value.bool false) (by kernel_rfl) ?_ (post_is rfl)
          kernel_rfl
        · intro vals w1 hB _ hd
          clear hd
          refine one_value (v := Value.bool false) rfl ?_ (post_is rfl)
          kernel_rfl
        · intro vals w1 hB _ hd
          clear hd
          refine one_value (v := Value.bool false) rfl ?_ (post_is rfl)
          kernel_rfl
        · intro vals w1 hB _ hd
          clear hd
          refine one_value_g (v := Value.agg #[.int .i64 (r0), .int .i64 (r1), .int .i64 (r2), .int .i64 (r3), .slice mA m.st.mem.length mC, .slice kA m.st.stack.length kC, .int .i64 (cpc), .slice bA m.buf.length bC, .slice qA m.rsb.length qC, .int .i64 (fin)]) (by kernel_rfl) ?_ (post_is rfl)
          exact exec_load_row rfl (b := w9.heap.size) (off := 0) (by kernel_rfl) [.int .i64 (r0), .int .i64 (r1), .int .i64 (r2), .int .i64 (r3), .slice mA m.st.mem.length mC, .slice kA m.st.stack.length kC, .int .i64 (cpc), .slice bA m.buf.length bC, .slice qA m.rsb.length qC, .int .i64 (fin)] (XCK.out w1 hB) Try.underlying41 rfl (by kernel_rfl)
        · intro vals w1 hB _ hd
          clear hd
          refine one_calls_g (f := 34) (args := #[.agg #[.int .i64 (r0), .int .i64 (r1), .int .i64 (r2), .int .i64 (r3), .slice mA m.st.mem.length mC, .slice kA m.st.stack.length kC, .int .i64 (cpc), .slice bA m.buf.length bC, .slice qA m.rsb.length qC, .int .i64 (fin)]]) (w1 := w1) (by kernel_rfl) (by kernel_rfl) ?_
          refine (HCODE.out w1 hB).mono ?_
          rintro e1 w3 ⟨v3, rfl, ho, hb⟩
          exact ⟨_, rfl, post_makes rfl (OwnB.lower ho hB.size) hb⟩
        · intro vals w1 hB _ hd
          have da : OwnB w1 w14.heap.size (vals 11) (putL L) := hd 11 (by kernel_rfl)
          clear hd
          obtain ⟨A5, c5, e5, _, r5⟩ := OwnB.shape da
          refine one_value_g (v := .string ⟨(putL L).toArray⟩) (by kernel_rfl) ?_ (post_is rfl)
          rw [vals_at e5]
          have hst := run_string (w := w1) (c := c5) r5 rfl
          simp only [fillT, Tell.is, Tell.draws, Tell.makes, Tell.gets, Act.put, List.setIfInBounds_toArray, List.set_cons_zero, List.set_cons_succ]
          go_simp
        · intro vals w1 hB _ hd
          clear hd
          refine one_value_g (v := Value.slice wA ((putL L).length) wC) (by kernel_rfl) ?_ (post_is rfl)
          kernel_rfl
        · intro vals w1 hB _ hd
          clear hd
          refine one_value_g (v := .string ⟨(putL L).toArray⟩) (by kernel_rfl) ?_ (post_is rfl)
          have hst := run_string (w := w1) (c := wC) (HWAS.out.past hB) rfl
          simp only [fillT, Tell.is, Tell.draws, Tell.makes, Tell.gets, Act.put, List.setIfInBounds_toArray, List.set_cons_zero, List.set_cons_succ]
          go_simp
        · intro vals w1 hB _ hd
          clear hd
          refine one_value_g (v := .bool false) (by kernel_rfl) ?_ (post_is rfl)
          refine Eq.trans (b := .ok (.value (.bool (!((⟨(putL L).toArray⟩ : ByteArray).toList == (⟨(putL L).toArray⟩ : ByteArray).toList)))) w1) (by kernel_rfl) ?_
          rw [str_eq, decide_eq_true rfl]
          rfl
        · intro vals w1 hB _ hd
          clear hd
          refine one_value (v := Value.bool false) rfl ?_ (post_is rfl)
          kernel_rfl
        intro vals w15 b15 _ hr
        clear hr
        simp only [fillT, Tell.is, Tell.draws, Tell.makes, Act.put, List.setIfInBounds_toArray, List.set_cons_zero, List.set_cons_succ]
        have HBe := Kept.mk (HBr.out.trans (b15.mono HBr.out.size))
        clear HSAME HCODE HWAS X1K X2K XCK
        go_wp2_with fail
        go_roundw
        case rel => exact ⟨g + 1, by go_num, by omega, by omega, HBe.out⟩
        case measure => simp [intOf]; omega
      · have hqe : (g == n + 1) = false := by simpa using heq
        go_wp2_with fail
        refine (HFP.out g wr HB.out).mono ?_
        rintro en w11 ⟨cx, rfl, hcx, b11⟩
        obtain ⟨⟨x0, x1, x2, x3, ⟨xmA, xmN, xmC⟩, ⟨xsA, xsN, xsC⟩, xpc⟩, ⟨xbA, xbN, xbC⟩, ⟨xqA, xqN, xqC⟩, xf⟩ := cx
        have hqs := HQF.out g
        have HFR' := Kept.mk (HFR.out g)
        generalize fetchQ pwin il m g = q at hqs hcx HFR' ⊢
        have hb := HB.out.trans (b11.mono HB.out.size)
        have HBr := Kept.mk (HBR.out.trans (b11.mono HBR.out.size))
        have XP1 := heap_keep XP.out hb
        have XC1 := heap_keep XC.out hb
        have Y6 := fun j => cell_of_row w11 w6.heap.size j _ _ _ XP1
        have Y9 := fun j => cell_of_row w11 w9.heap.size j _ _ _ XC1
        simp only [Prg.cs] at Y6
        clear b11
        go_upto_region 15 with (fail)
        have bX := below_alloc_self w11 (.cells #[.int .i64 (x0), .int .i64 (x1), .int .i64 (x2), .int .i64 (x3), .slice xmA xmN xmC, .slice xsA xsN xsC, .int .i64 (xpc), .slice xbA xbN xbC, .slice xqA xqN xqC, .int .i64 (xf)] 41)
        have hb := hb.trans (bX.mono hb.size)
        have HBr := Kept.mk (HBr.out.trans (bX.mono HBr.out.size))
        have hcx := hcx.past bX
        have X1 := heap_alloc_new w11 (.cells #[.int .i64 (x0), .int .i64 (x1), .int .i64 (x2), .int .i64 (x3), .slice xmA xmN xmC, .slice xsA xsN xsC, .int .i64 (xpc), .slice xbA xbN xbC, .slice xqA xqN xqC, .int .i64 (xf)] 41)
        have hs1 : w11.heap.size < (w11.alloc (.cells #[.int .i64 (x0), .int .i64 (x1), .int .i64 (x2), .int .i64 (x3), .slice xmA xmN xmC, .slice xsA xsN xsC, .int .i64 (xpc), .slice xbA xbN xbC, .slice xqA xqN xqC, .int .i64 (xf)] 41)).heap.size := by simp
        clear Y6 Y9 XP1 XC1 bX
        generalize w11.alloc (.cells #[.int .i64 (x0), .int .i64 (x1), .int .i64 (x2), .int .i64 (x3), .slice xmA xmN xmC, .slice xsA xsN xsC, .int .i64 (xpc), .slice xbA xbN xbC, .slice xqA xqN xqC, .int .i64 (xf)] 41) = w12 at *
        obtain ⟨S1, hS1⟩ : ∃ S, w11.heap.size = S := ⟨_, rfl⟩
        rw [hS1] at X1 hs1 ⊢
        clear hS1
        have XP1 := heap_keep XP.out hb
        have XC1 := heap_keep XC.out hb
        have Y6 := fun j => cell_of_row w12 w6.heap.size j _ _ _ XP1
        have Y9 := fun j => cell_of_row w12 w9.heap.size j _ _ _ XC1
        simp only [Prg.cs] at Y6
        go_wp2_with fail
        refine (HFR'.out w12 hb).mono ?_
        rintro en w11 ⟨cy, rfl, hcy, b11⟩
        obtain ⟨⟨y0, y1, y2, y3, ⟨ymA, ymN, ymC⟩, ⟨ysA, ysN, ysC⟩, ypc⟩, ⟨ybA, ybN, ybC⟩, ⟨yqA, yqN, yqC⟩, yf⟩ := cy
        have hb := hb.trans (b11.mono hb.size)
        have HBr := Kept.mk (HBr.out.trans (b11.mono HBr.out.size))
        have hcx := hcx.past b11
        have X1 := heap_keep X1 b11
        have hs1 : S1 < w11.heap.size := by have := b11.size; omega
        clear Y6 Y9 XP1 XC1 b11
        have Y9 := fun j => cell_of_row w11 w9.heap.size j _ _ _ (heap_keep XC.out hb)
        go_upto_region 16 with (fail)
        have bX := below_alloc_self w11 (.cells #[.int .i64 (y0), .int .i64 (y1), .int .i64 (y2), .int .i64 (y3), .slice ymA ymN ymC, .slice ysA ysN ysC, .int .i64 (ypc), .slice ybA ybN ybC, .slice yqA yqN yqC, .int .i64 (yf)] 41)
        have hb := hb.trans (bX.mono hb.size)
        have HBr := Kept.mk (HBr.out.trans (bX.mono HBr.out.size))
        have hcx := hcx.past bX
        have hcy := hcy.past bX
        have X1 := heap_keep X1 bX
        have X2 := heap_alloc_new w11 (.cells #[.int .i64 (y0), .int .i64 (y1), .int .i64 (y2), .int .i64 (y3), .slice ymA ymN ymC, .slice ysA ysN ysC, .int .i64 (ypc), .slice ybA ybN ybC, .slice yqA yqN yqC, .int .i64 (yf)] 41)
        clear Y9 bX
        generalize w11.alloc (.cells #[.int .i64 (y0), .int .i64 (y1), .int .i64 (y2), .int .i64 (y3), .slice ymA ymN ymC, .slice ysA ysN ysC, .int .i64 (ypc), .slice ybA ybN ybC, .slice yqA yqN yqC, .int .i64 (yf)] 41) = w14 at *
        obtain ⟨S2, hS2⟩ : ∃ S, w11.heap.size = S := ⟨_, rfl⟩
        rw [hS2] at X2 ⊢
        clear hS2
        have XC1 := heap_keep XC.out hb
        have X1K : Kept (∀ w1, Below w14.heap.size w14 w1 → CellsAt w1 S1 0 [.int .i64 (x0), .int .i64 (x1), .int .i64 (x2), .int .i64 (x3), .slice xmA xmN xmC, .slice xsA xsN xsC, .int .i64 (xpc), .slice xbA xbN xbC, .slice xqA xqN xqC, .int .i64 (xf)]) := ⟨fun w1 hb => CellsAt.of_block (heap_keep X1 hb)⟩
        have X2K : Kept (∀ w1, Below w14.heap.size w14 w1 → CellsAt w1 S2 0 [.int .i64 (y0), .int .i64 (y1), .int .i64 (y2), .int .i64 (y3), .slice ymA ymN ymC, .slice ysA ysN ysC, .int .i64 (ypc), .slice ybA ybN ybC, .slice yqA yqN yqC, .int .i64 (yf)]) := ⟨fun w1 hb => CellsAt.of_block (heap_keep X2 hb)⟩
        have XCK : Kept (∀ w1, Below w14.heap.size w14 w1 → CellsAt w1 w9.heap.size 0 [.int .i64 (r0), .int .i64 (r1), .int .i64 (r2), .int .i64 (r3), .slice mA m.st.mem.length mC, .slice kA m.st.stack.length kC, .int .i64 (cpc), .slice bA m.buf.length bC, .slice qA m.rsb.length qC, .int .i64 (fin)]) := ⟨fun w1 hb => CellsAt.of_block (heap_keep XC1 hb)⟩
        have HSAME : Kept (∀ w1, Below w14.heap.size w14 w1 → Calls Try.prog 30 #[.agg #[.int .i64 (x0), .int .i64 (x1), .int .i64 (x2), .int .i64 (x3), .slice xmA xmN xmC, .slice xsA xsN xsC, .int .i64 (xpc), .slice xbA xbN xbC, .slice xqA xqN xqC, .int .i64 (xf)], .agg #[.int .i64 (y0), .int .i64 (y1), .int .i64 (y2), .int .i64 (y3), .slice ymA ymN ymC, .slice ysA ysN ysC, .int .i64 (ypc), .slice ybA ybN ybC, .slice yqA yqN yqC, .int .i64 (yf)]] w1 fun en w' => en = .returned (.bool true) ∧ Below w1.heap.size w1 w') := ⟨fun w1 hb => by
          have := same9 ⟨⟨x0, x1, x2, x3, ⟨xmA, xmN, xmC⟩, ⟨xsA, xsN, xsC⟩, xpc⟩, ⟨xbA, xbN, xbC⟩, ⟨xqA, xqN, xqC⟩, xf⟩ ⟨⟨y0, y1, y2, y3, ⟨ymA, ymN, ymC⟩, ⟨ysA, ysN, ysC⟩, ypc⟩, ⟨ybA, ybN, ybC⟩, ⟨yqA, yqN, yqC⟩, yf⟩ _ _ w1 (hcx.past hb) (hcy.past hb) hqs.1 hqs.2.1 hqs.2.2.1 hqs.2.2.2 hqs.1 hqs.2.1 hqs.2.2.1 hqs.2.2.2
          rw [decide_eq_true rfl] at this
          exact this⟩
        have HCODE : Kept (∀ w1, Below w14.heap.size w14 w1 → Calls Try.prog 34 #[.agg #[.int .i64 (r0), .int .i64 (r1), .int .i64 (r2), .int .i64 (r3), .slice mA m.st.mem.length mC, .slice kA m.st.stack.length kC, .int .i64 (cpc), .slice bA m.buf.length bC, .slice qA m.rsb.length qC, .int .i64 (fin)]] w1 (GivesB w1 (putL L))) := ⟨fun w1 hb1 => HCO.out w1 (hb.trans (hb1.mono hb.size))⟩
        have HWAS : Kept (RdB w14 wA (putL L)) := ⟨HWS.out.past HBr.out⟩
        generalize q.isSome = bz at *
        have hbz : (bz != bz) = false := by cases bz <;> rfl
        clear hqs hcx hcy X1 X2 XC1 hs1 HFR'
        refine region_tell (w14.heap.size) (G := fun _ => True) (ts := [
            .is (Value.bool bz),
            .is (Value.bool bz),
            .is (Value.bool false),
            .is (Value.bool false),
            .is (Value.agg #[.int .i64 (x0), .int .i64 (x1), .int .i64 (x2), .int .i64 (x3), .slice xmA xmN xmC, .slice xsA xsN xsC, .int .i64 (xpc), .slice xbA xbN xbC, .slice xqA xqN xqC, .int .i64 (xf)]),
            .is (Value.agg #[.int .i64 (y0), .int .i64 (y1), .int .i64 (y2), .int .i64 (y3), .slice ymA ymN ymC, .slice ysA ysN ysC, .int .i64 (ypc), .slice ybA ybN ybC, .slice yqA yqN yqC, .int .i64 (yf)]),
            .draws (.bool true),
            .is (Value.bool false),
            .is (Value.bool false),
            .is (Value.bool false),
            .is (Value.agg #[.int .i64 (r0), .int .i64 (r1), .int .i64 (r2), .int .i64 (r3), .slice mA m.st.mem.length mC, .slice kA m.st.stack.length kC, .int .i64 (cpc), .slice bA m.buf.length bC, .slice qA m.rsb.length qC, .int .i64 (fin)]),
            .makes (fun v w' => OwnB w' w14.heap.size v (putL L)),
            .is (.string ⟨(putL L).toArray⟩),
            .is (Value.slice wA ((putL L).length) wC),
            .is (.string ⟨(putL L).toArray⟩),
            .is (.bool false),
            .is (Value.bool false)])
          (fin := []) (cs := []) (by kernel_rfl) rfl (by kernel_rfl) (by kernel_rfl)
          ⟨trivial, trivial, trivial, trivial, trivial, trivial, trivial, trivial, trivial, trivial, trivial, (fun _ _ _ h hb => OwnB.past h hb), trivial, trivial, trivial, trivial, trivial, trivial⟩ (fun _ _ _ _ => trivial) (by simp) (by simp) trivial
          ⟨?_, ?_, ?_, ?_, ?_, ?_, ?_, ?_, ?_, ?_, ?_, ?_, ?_, ?_, ?_, ?_, ?_, trivial⟩ ?_
        · intro vals w1 hB _ hd
          clear hd
          refine one_value (v := Value.bool bz) rfl ?_ (post_is rfl)
          kernel_rfl
        · intro vals w1 hB _ hd
          clear hd
          refine one_value (v := Value.bool bz) rfl ?_ (post_is rfl)
          kernel_rfl
        · intro vals w1 hB _ hd
          clear hd
          refine one_value (v := Value.bool false) rfl ?_ (post_is rfl)
          exact Eq.trans (b := .ok (.value (.bool ((bz) != (bz)))) w1) (by kernel_rfl) (by rw [hbz])
        · intro vals w1 hB _ hd
          clear hd
          refine one_value (v := Value.bool false) rfl ?_ (post_is rfl)
          kernel_rfl
        · intro vals w1 hB _ hd
          clear hd
          refine one_value_g (v := Value.agg #[.int .i64 (x0), .int .i64 (x1), .int .i64 (x2), .int .i64 (x3), .slice xmA xmN xmC, .slice xsA xsN xsC, .int .i64 (xpc), .slice xbA xbN xbC, .slice xqA xqN xqC, .int .i64 (xf)]) (by kernel_rfl) ?_ (post_is rfl)
          exact exec_load_row rfl (b := S1) (off := 0) (by kernel_rfl) [.int .i64 (x0), .int .i64 (x1), .int .i64 (x2), .int .i64 (x3), .slice xmA xmN xmC, .slice xsA xsN xsC, .int .i64 (xpc), .slice xbA xbN xbC, .slice xqA xqN xqC, .int .i64 (xf)] (X1K.out w1 hB) Try.underlying41 rfl (by kernel_rfl)
        · intro vals w1 hB _ hd
          clear hd
          refine one_value_g (v := Value.agg #[.int .i64 (y0), .int .i64 (y1), .int .i64 (y2), .int .i64 (y3), .slice ymA ymN ymC, .slice ysA ysN ysC, .int .i64 (ypc), .slice ybA ybN ybC, .slice yqA yqN yqC, .int .i64 (yf)]) (by kernel_rfl) ?_ (post_is rfl)
          exact exec_load_row rfl (b := S2) (off := 0) (by kernel_rfl) [.int .i64 (y0), .int .i64 (y1), .int .i64 (y2), .int .i64 (y3), .slice ymA ymN ymC, .slice ysA ysN ysC, .int .i64 (ypc), .slice ybA ybN ybC, .slice yqA yqN yqC, .int .i64 (yf)] (X2K.out w1 hB) Try.underlying41 rfl (by kernel_rfl)
        · intro vals w1 hB _ hd
          clear hd
          refine one_calls_g (f := 30) (args := #[.agg #[.int .i64 (x0), .int .i64 (x1), .int .i64 (x2), .int .i64 (x3), .slice xmA xmN xmC, .slice xsA xsN xsC, .int .i64 (xpc), .slice xbA xbN xbC, .slice xqA xqN xqC, .int .i64 (xf)], .agg #[.int .i64 (y0), .int .i64 (y1), .int .i64 (y2), .int .i64 (y3), .slice ymA ymN ymC, .slice ysA ysN ysC, .int .i64 (ypc), .slice ybA ybN ybC, .slice yqA yqN yqC, .int .i64 (yf)]]) (w1 := w1) (by kernel_rfl) (by kernel_rfl) ?_
          refine (HSAME.out w1 hB).mono ?_
          rintro e1 w3 ⟨rfl, hb⟩
          exact ⟨_, rfl, post_draws rfl hb⟩
        · intro vals w1 hB _ hd
          clear hd
          refine one_value_g (v := Value.bool false) (by kernel_rfl) ?_ (post_is rfl)
          kernel_rfl
        · intro vals w1 hB _ hd
          clear hd
          refine one_value (v := Value.bool false) rfl ?_ (post_is rfl)
          kernel_rfl
        · intro vals w1 hB _ hd
          clear hd
          refine one_value (v := Value.bool false) rfl ?_ (post_is rfl)
          kernel_rfl
        · intro vals w1 hB _ hd
          clear hd
          refine one_value_g (v := Value.agg #[.int .i64 (r0), .int .i64 (r1), .int .i64 (r2), .int .i64 (r3), .slice mA m.st.mem.length mC, .slice kA m.st.stack.length kC, .int .i64 (cpc), .slice bA m.buf.length bC, .slice qA m.rsb.length qC, .int .i64 (fin)]) (by kernel_rfl) ?_ (post_is rfl)
          exact exec_load_row rfl (b := w9.heap.size) (off := 0) (by kernel_rfl) [.int .i64 (r0), .int .i64 (r1), .int .i64 (r2), .int .i64 (r3), .slice mA m.st.mem.length mC, .slice kA m.st.stack.length kC, .int .i64 (cpc), .slice bA m.buf.length bC, .slice qA m.rsb.length qC, .int .i64 (fin)] (XCK.out w1 hB) Try.underlying41 rfl (by kernel_rfl)
        · intro vals w1 hB _ hd
          clear hd
          refine one_calls_g (f := 34) (args := #[.agg #[.int .i64 (r0), .int .i64 (r1), .int .i64 (r2), .int .i64 (r3), .slice mA m.st.mem.length mC, .slice kA m.st.stack.length kC, .int .i64 (cpc), .slice bA m.buf.length bC, .slice qA m.rsb.length qC, .int .i64 (fin)]]) (w1 := w1) (by kernel_rfl) (by kernel_rfl) ?_
          refine (HCODE.out w1 hB).mono ?_
          rintro e1 w3 ⟨v3, rfl, ho, hb⟩
          exact ⟨_, rfl, post_makes rfl (OwnB.lower ho hB.size) hb⟩
        · intro vals w1 hB _ hd
          have da : OwnB w1 w14.heap.size (vals 11) (putL L) := hd 11 (by kernel_rfl)
          clear hd
          obtain ⟨A5, c5, e5, _, r5⟩ := OwnB.shape da
          refine one_value_g (v := .string ⟨(putL L).toArray⟩) (by kernel_rfl) ?_ (post_is rfl)
          rw [vals_at e5]
          have hst := run_string (w := w1) (c := c5) r5 rfl
          simp only [fillT, Tell.is, Tell.draws, Tell.makes, Tell.gets, Act.put, List.setIfInBounds_toArray, List.set_cons_zero, List.set_cons_succ]
          go_simp
        · intro vals w1 hB _ hd
          clear hd
          refine one_value_g (v := Value.slice wA ((putL L).length) wC) (by kernel_rfl) ?_ (post_is rfl)
          kernel_rfl
        · intro vals w1 hB _ hd
          clear hd
          refine one_value_g (v := .string ⟨(putL L).toArray⟩) (by kernel_rfl) ?_ (post_is rfl)
          have hst := run_string (w := w1) (c := wC) (HWAS.out.past hB) rfl
          simp only [fillT, Tell.is, Tell.draws, Tell.makes, Tell.gets, Act.put, List.setIfInBounds_toArray, List.set_cons_zero, List.set_cons_succ]
          go_simp
        · intro vals w1 hB _ hd
          clear hd
          refine one_value_g (v := .bool false) (by kernel_rfl) ?_ (post_is rfl)
          refine Eq.trans (b := .ok (.value (.bool (!((⟨(putL L).toArray⟩ : ByteArray).toList == (⟨(putL L).toArray⟩ : ByteArray).toList)))) w1) (by kernel_rfl) ?_
          rw [str_eq, decide_eq_true rfl]
          rfl
        · intro vals w1 hB _ hd
          clear hd
          refine one_value (v := Value.bool false) rfl ?_ (post_is rfl)
          kernel_rfl
        intro vals w15 b15 _ hr
        clear hr
        simp only [fillT, Tell.is, Tell.draws, Tell.makes, Act.put, List.setIfInBounds_toArray, List.set_cons_zero, List.set_cons_succ]
        have HBe := Kept.mk (HBr.out.trans (b15.mono HBr.out.size))
        clear HSAME HCODE HWAS X1K X2K XCK
        go_wp2_with fail
        go_roundw
        case rel => exact ⟨g + 1, by go_num, by omega, by omega, HBe.out⟩
        case measure => simp [intOf]; omega
    · go_wp2_with fail
      refine (HAW.out _).mono ?_
      rintro en w14 ⟨rfl, b14⟩
      have WX := Kept.mk ((W10.out.trans (HB.out.mono W10.out.size)).trans (b14.mono (by have := HB.out.size; have := W10.out.size; omega)))
      clear b14
      go_wp2_with fail
      go_ret
      exact ⟨rfl, WX.out⟩
theorem ftells_law (A2 : Option Addr) (c2 : Nat) (mk : List Int) (A3 : Option Addr) (c3 : Nat) (l : List Int) (A4 : Option Addr) (c4 : Nat) (wk : List Int) (raw : Int) (w : World) (_hc2 : mk.length ≤ c2) (_hm2 : c2 ≤ maxLen) (hr2 : RdI w A2 mk) (_ok2 : ∀ x ∈ mk, -9223372036854775808 ≤ x ∧ x ≤ 9223372036854775807) (_hc3 : l.length ≤ c3) (_hm3 : c3 ≤ maxLen) (hr3 : RdI w A3 l) (_ok3 : ∀ x ∈ l, -9223372036854775808 ≤ x ∧ x ≤ 9223372036854775807) (_hc4 : wk.length ≤ c4) (_hm4 : c4 ≤ maxLen) (hr4 : RdI w A4 wk) (_ok4 : ∀ x ∈ wk, -9223372036854775808 ≤ x ∧ x ≤ 9223372036854775807) (_hraw : -9223372036854775808 ≤ raw ∧ raw ≤ 9223372036854775807) :
    Calls Try.prog 12 #[.slice A2 mk.length c2, .slice A3 l.length c3, .slice A4 wk.length c4, .int .i64 raw] w (SaysTrue w) := ftells_walk A2 c2 mk A3 c3 l A4 c4 wk raw w hr2 hr3 hr4
end Go.Proofs.Ytchldbkjapnlcaa
