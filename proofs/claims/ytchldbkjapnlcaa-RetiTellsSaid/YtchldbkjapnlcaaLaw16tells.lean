/- The law RetiTells: what may be committed, and what comes of it, is as the document says. -/
import Derived.Test.YtchldbkjapnlcaaJr
import Derived.Test.YtchldbkjapnlcaaJq
import Derived.Test.YtchldbkjapnlcaaJl
import Derived.Test.YtchldbkjapnlcaaJu
import Derived.Test.YtchldbkjapnlcaaJWreg
import Derived.Deep.DeepCutAuto
set_option linter.unusedVariables false
set_option linter.unusedSimpArgs false
namespace Go.Proofs.Ytchldbkjapnlcaa
open Go.RowKit

set_option maxRecDepth 100000 in
set_option maxHeartbeats 3000000 in
theorem rttells_walk (A2 : Option Addr) (c2 : Nat) (mk : List Int) (A3 : Option Addr) (c3 : Nat) (l : List Int) (A4 : Option Addr) (c4 : Nat) (wk : List Int) (w : World) (hc4 : wk.length ≤ c4) (hr2 : RdI w A2 mk) (hr3 : RdI w A3 l) (hr4 : RdI w A4 wk) :
    Calls Try.prog 7 #[.slice A2 mk.length c2, .slice A3 l.length c3, .slice A4 wk.length c4] w (SaysTrue w) := by
  have HAW := Kept.mk awake16
  have HR2 := Kept.mk hr2
  have HR3 := Kept.mk hr3
  have HR4 := Kept.mk hr4
  clear hr2 hr3 hr4
  go_enter Try.func7, Try.ntmps7
  go_wp2_with fail
  refine (make_at A2 mk mk.length c2 w rfl HR2.out).mono ?_
  rintro en w6 ⟨p, il, ml, rfl, hmk, b6⟩
  have W6 := Kept.mk b6
  obtain ⟨pmA, pmC, hpm, -, -⟩ := hmk.mem
  obtain ⟨plA, plN, plC, hpl⟩ := hmk.lab
  obtain ⟨pW, pwin, pfuel, pr0, pr1, pr2, pr3, pmems, plabels, pA, pN, pC⟩ := p
  simp only at hpm hpl
  subst hpm hpl
  have HMK := Kept.mk hmk
  clear hmk b6
  obtain ⟨HPM, hPM⟩ : ∃ x : Kept (ProgOk pW pwin il), x = x := ⟨⟨make_prog HMK.out⟩, rfl⟩
  clear hPM
  go_wp2_with fail
  have ba := below_alloc_self w6 (.cells (Prg.cs (⟨pW, pwin, pfuel, pr0, pr1, pr2, pr3, .slice pmA ml.length pmC, .slice plA plN plC, pA, pN, pC⟩ : Prg)).toArray 33)
  refine (states_mach (⟨pW, pwin, pfuel, pr0, pr1, pr2, pr3, .slice pmA ml.length pmC, .slice plA plN plC, pA, pN, pC⟩ : Prg) il ml A3 l l.length c3 (w6.alloc (.cells (Prg.cs (⟨pW, pwin, pfuel, pr0, pr1, pr2, pr3, .slice pmA ml.length pmC, .slice plA plN plC, pA, pN, pC⟩ : Prg)).toArray 33)) rfl (HMK.out.past ba) (HR3.out.past (W6.out.trans (ba.mono W6.out.size)))).mono ?_
  rintro en w7 ⟨s, t, ms, mt, rfl, hs, ht, b7⟩
  have XP := Kept.mk (heap_keep (heap_alloc_new w6 (.cells (Prg.cs (⟨pW, pwin, pfuel, pr0, pr1, pr2, pr3, .slice pmA ml.length pmC, .slice plA plN plC, pA, pN, pC⟩ : Prg)).toArray 33)) b7)
  have W7 := Kept.mk ((W6.out.trans (ba.mono W6.out.size)).trans (b7.mono (by have := W6.out.size; simp; omega)))
  have HMK := Kept.mk ((HMK.out.past ba).past b7)
  have HS := Kept.mk hs
  have HT := Kept.mk ht
  clear hs ht b7 ba
  obtain ⟨s0, s1, s2, s3, ⟨sA, sN, sC⟩, ⟨uA, uN, uC⟩, s6⟩ := s
  obtain ⟨t0, t1, t2, t3, ⟨tA, tN, tC⟩, ⟨vA, vN, vC⟩, t6⟩ := t
  go_upto_region 3 with (fail)
  have bb := (below_alloc_self w7 (.cells #[.int .i64 s0, .int .i64 s1, .int .i64 s2, .int .i64 s3, .slice sA sN sC, .slice uA uN uC, .int .i64 s6] 36)).alloc (by simp) (.cells #[.int .i64 t0, .int .i64 t1, .int .i64 t2, .int .i64 t3, .slice tA tN tC, .slice vA vN vC, .int .i64 t6] 36)
  have XS := Kept.mk ((heap_alloc_old _ _ (by simp)).trans (heap_alloc_new w7 (.cells #[.int .i64 s0, .int .i64 s1, .int .i64 s2, .int .i64 s3, .slice sA sN sC, .slice uA uN uC, .int .i64 s6] 36)) : ((w7.alloc (.cells #[.int .i64 s0, .int .i64 s1, .int .i64 s2, .int .i64 s3, .slice sA sN sC, .slice uA uN uC, .int .i64 s6] 36)).alloc (.cells #[.int .i64 t0, .int .i64 t1, .int .i64 t2, .int .i64 t3, .slice tA tN tC, .slice vA vN vC, .int .i64 t6] 36)).heap[w7.heap.size]? = some (.cells #[.int .i64 s0, .int .i64 s1, .int .i64 s2, .int .i64 s3, .slice sA sN sC, .slice uA uN uC, .int .i64 s6] 36))
  have XT := Kept.mk (heap_alloc2_new w7 (.cells #[.int .i64 s0, .int .i64 s1, .int .i64 s2, .int .i64 s3, .slice sA sN sC, .slice uA uN uC, .int .i64 s6] 36) (.cells #[.int .i64 t0, .int .i64 t1, .int .i64 t2, .int .i64 t3, .slice tA tN tC, .slice vA vN vC, .int .i64 t6] 36))
  have XP := Kept.mk (heap_keep XP.out bb)
  have W8 := Kept.mk (W7.out.trans (bb.mono W7.out.size))
  have HMK := Kept.mk (HMK.out.past bb)
  have HS := Kept.mk (HS.out.past bb)
  have HT := Kept.mk (HT.out.past bb)
  clear bb
  generalize (w7.alloc (.cells #[.int .i64 s0, .int .i64 s1, .int .i64 s2, .int .i64 s3, .slice sA sN sC, .slice uA uN uC, .int .i64 s6] 36)).alloc (.cells #[.int .i64 t0, .int .i64 t1, .int .i64 t2, .int .i64 t3, .slice tA tN tC, .slice vA vN vC, .int .i64 t6] 36) = w8 at *
  have Y6 := fun j => cell_of_row w8 w6.heap.size j _ _ _ XP.out
  have Y7 := fun j => cell_of_row w8 w7.heap.size j _ _ _ XS.out
  simp only [Prg.cs] at Y6
  have hpure := fun (n : Nat) => walk_pure (⟨pW, pwin, pfuel, pr0, pr1, pr2, pr3, .slice pmA ml.length pmC, .slice plA plN plC, pA, pN, pC⟩ : Prg) il ml ⟨s0, s1, s2, s3, ⟨sA, sN, sC⟩, ⟨uA, uN, uC⟩, s6⟩ ms (wk.take n) w8 HMK.out HS.out
  have HPU := Kept.mk hpure
  clear hpure HT XT Y6 Y7
  go_wp2_with fail
  go_loopw [10] (fun v wr => ∃ n : Nat, v = .int .i64 ((n : Nat) : Int) ∧ n ≤ 42 ∧ Below w8.heap.size w8 wr) (fun v _ => (60 - intOf v).toNat)
  case atStart => exact ⟨0, rfl, by omega, Below.refl _ _⟩
  case round =>
    obtain ⟨n, rfl, hn, hbr⟩ := hrel
    have HBR := Kept.mk hbr
    clear hbr
    by_cases hlt : n ≤ wk.length ∧ n < 40
    · obtain ⟨hn1, hn2⟩ := hlt
      have hq1 : decide (((n : Nat) : Int) ≤ (wk.length : Int)) = true := by simpa using hn1
      have hq2 : decide (((n : Nat) : Int) < 40) = true := by simp; omega
      have wn : IntKind.i64.wrap (((n : Nat) : Int) + 3) = ((n : Nat) : Int) + 3 := IntWalk.i64_in _ (by omega)
      obtain ⟨m, k, hinv, hk, hL, HWKP⟩ := HPU.out n
      go_upto_region 6 with (fail)
      have X7 : Kept (∀ w1, Below wr.heap.size wr w1 → CellsAt w1 w6.heap.size 0 [.int .i64 (pW), .int .i64 (pwin), .int .i64 (pfuel), .int .i64 (pr0), .int .i64 (pr1), .int .i64 (pr2), .int .i64 (pr3), .slice pmA ml.length pmC, .slice plA plN plC, .slice pA pN pC]) := ⟨fun w1 hb => CellsAt.of_block (heap_keep (heap_keep XP.out HBR.out) hb)⟩
      have X8 : Kept (∀ w1, Below wr.heap.size wr w1 → CellsAt w1 w7.heap.size 0 [.int .i64 s0, .int .i64 s1, .int .i64 s2, .int .i64 s3, .slice sA sN sC, .slice uA uN uC, .int .i64 s6]) := ⟨fun w1 hb => CellsAt.of_block (heap_keep (heap_keep XS.out HBR.out) hb)⟩
      obtain ⟨hcut, hrd⟩ := cut_int_to (HR4.out.past W8.out) hc4 n hn1
      have HRD := Kept.mk hrd
      have htk : (wk.take n).length = n := by rw [List.length_take]; omega
      refine walk_region wr w6.heap.size w7.heap.size n A4 c4 wk m ml pW pwin pfuel pr0 pr1 pr2 pr3 pmA plA pA pmC plN plC pN pC s0 s1 s2 s3 s6 sA uA sN sC uN uC X7 X8 ⟨hcut⟩
        ⟨fun w1 hb => HWKP A4 n c4 w1 htk (HMK.out.past (HBR.out.trans (hb.mono HBR.out.size))) (HS.out.past (HBR.out.trans (hb.mono HBR.out.size))) (HRD.out.past (HBR.out.trans (hb.mono HBR.out.size)))⟩ _ ?_
      intros
      rename_i w9 S c dA dN dC hx h1 h2 hS b9
      have hb9 := HBR.out.trans (b9.mono HBR.out.size)
      have HM : Kept (Mach w9 (⟨pW, pwin, pfuel, pr0, pr1, pr2, pr3, .slice pmA ml.length pmC, .slice plA plN plC, pA, pN, pC⟩ : Prg) il c m ms.mem.length k) := ⟨⟨(HMK.out.past hb9).pi, HPM.out, h1, h2, hinv, hk, hL⟩⟩
      clear hcut hrd HRD HWKP X7 X8 h1 h2 hinv hk hL b9
      have XP9 := Kept.mk (heap_keep XP.out hb9)
      have HB9 := Kept.mk hb9
      clear hb9
      obtain ⟨⟨r0, r1, r2, r3, ⟨mA, mN, mC⟩, ⟨kA, kN, kC⟩, cpc⟩, ⟨bA, bN, bC⟩, ⟨qA, qN, qC⟩, fin⟩ := c
      have hbn : bN = m.buf.length := HM.out.cf.buf.n
      have hkn : kN = m.st.stack.length := HM.out.cf.st.stack.n
      have hmn : mN = m.st.mem.length := HM.out.cf.st.mem.n
      have hqn : qN = m.rsb.length := HM.out.cf.rsb.n
      subst hbn hkn hmn hqn
      have HF := Kept.mk (inv_fit HM.out.ok HM.out.inv (Nat.le_trans HM.out.kl (by decide)) HM.out.ll)
      have XC := Kept.mk hx
      have HCP := Kept.mk (fun w1 (hb : Below w9.heap.size w9 w1) => pretire_any (⟨pW, pwin, pfuel, pr0, pr1, pr2, pr3, .slice pmA ml.length pmC, .slice plA plN plC, pA, pN, pC⟩ : Prg) il ⟨⟨r0, r1, r2, r3, ⟨mA, m.st.mem.length, mC⟩, ⟨kA, m.st.stack.length, kC⟩, cpc⟩, ⟨bA, m.buf.length, bC⟩, ⟨qA, m.rsb.length, qC⟩, fin⟩ m w1 (HM.out.past hb).pi (HM.out.past hb).cf HF.out.ml HF.out.sl HF.out.bl HF.out.rl HF.out.sm HF.out.rt)
      have HCR := Kept.mk (fun w1 (hb : Below w9.heap.size w9 w1) => rretire_any (⟨pW, pwin, pfuel, pr0, pr1, pr2, pr3, .slice pmA ml.length pmC, .slice plA plN plC, pA, pN, pC⟩ : Prg) il ⟨⟨r0, r1, r2, r3, ⟨mA, m.st.mem.length, mC⟩, ⟨kA, m.st.stack.length, kC⟩, cpc⟩, ⟨bA, m.buf.length, bC⟩, ⟨qA, m.rsb.length, qC⟩, fin⟩ m w1 (HM.out.past hb).pi (HM.out.past hb).cf (HM.out.past hb).ty HF.out.bl HF.out.ml HF.out.sl HF.out.sm HF.out.rt)
      have HCO := Kept.mk (fun w1 (hb : Below w9.heap.size w9 w1) => code9 ⟨⟨r0, r1, r2, r3, ⟨mA, m.st.mem.length, mC⟩, ⟨kA, m.st.stack.length, kC⟩, cpc⟩, ⟨bA, m.buf.length, bC⟩, ⟨qA, m.rsb.length, qC⟩, fin⟩ m w1 (HM.out.past hb).cf HF.out.ml HF.out.sl HF.out.bl HF.out.rl)
      have HCN := Kept.mk (fun w1 (hb : Below w9.heap.size w9 w1) => pcan_any (⟨pW, pwin, pfuel, pr0, pr1, pr2, pr3, .slice pmA ml.length pmC, .slice plA plN plC, pA, pN, pC⟩ : Prg) il ⟨⟨r0, r1, r2, r3, ⟨mA, m.st.mem.length, mC⟩, ⟨kA, m.st.stack.length, kC⟩, cpc⟩, ⟨bA, m.buf.length, bC⟩, ⟨qA, m.rsb.length, qC⟩, fin⟩ m w1 (HM.out.past hb).pi (HM.out.past hb).cf (by have := HF.out.bl; omega))
      have hqs := retQ_small HM.out HF.out
      have hqi : canRetOf il m = (retQ il m).isSome := by unfold retQ; split <;> simp_all
      rw [hqi] at HCN
      generalize cfInts m = L at HCO
      generalize retQ il m = q at HCP HCR HCN hqs
      clear hqi hx
      have Y9 := fun j => cell_of_row w9 S j _ _ _ XC.out
      simp only [Cnf.cs] at Y9
      go_wp2_with fail
      refine (HCO.out w9 (Below.refl _ _)).mono ?_
      rintro en w13 ⟨vw, rfl, ow, b13⟩
      obtain ⟨wA, wC, rfl, -, rw13⟩ := OwnB.shape ow
      have HWS := Kept.mk rw13
      clear ow rw13 Y9
      have Y6 := fun j => cell_of_row w13 w6.heap.size j _ _ _ (heap_keep XP9.out b13)
      have Y9 := fun j => cell_of_row w13 S j _ _ _ (heap_keep XC.out b13)
      simp only [Prg.cs] at Y6
      simp only [Cnf.cs] at Y9
      have HB13 := Kept.mk b13
      clear b13
      go_wp2_with fail
      refine (HCP.out w13 HB13.out).mono ?_
      rintro en w11 ⟨cx, rfl, hcx, b11⟩
      obtain ⟨⟨x0, x1, x2, x3, ⟨xmA, xmN, xmC⟩, ⟨xsA, xsN, xsC⟩, xpc⟩, ⟨xbA, xbN, xbC⟩, ⟨xqA, xqN, xqC⟩, xf⟩ := cx
      have hcx := hcx.is
      have hb := HB13.out.trans (b11.mono HB13.out.size)
      have HWS := Kept.mk (HWS.out.past b11)
      clear Y6 Y9 b11 HB13
      have Y6 := fun j => cell_of_row w11 w6.heap.size j _ _ _ (heap_keep XP9.out hb)
      have Y9 := fun j => cell_of_row w11 S j _ _ _ (heap_keep XC.out hb)
      simp only [Prg.cs] at Y6
      simp only [Cnf.cs] at Y9
      go_upto_region 9 with (fail)
      have bX := below_alloc_self w11 (.cells #[.int .i64 (x0), .int .i64 (x1), .int .i64 (x2), .int .i64 (x3), .slice xmA xmN xmC, .slice xsA xsN xsC, .int .i64 (xpc), .slice xbA xbN xbC, .slice xqA xqN xqC, .int .i64 (xf)] 41)
      have hb := hb.trans (bX.mono hb.size)
      have HWS := Kept.mk (HWS.out.past bX)
      have hcx := hcx.past bX
      have X1 := heap_alloc_new w11 (.cells #[.int .i64 (x0), .int .i64 (x1), .int .i64 (x2), .int .i64 (x3), .slice xmA xmN xmC, .slice xsA xsN xsC, .int .i64 (xpc), .slice xbA xbN xbC, .slice xqA xqN xqC, .int .i64 (xf)] 41)
      clear Y6 Y9 bX
      generalize w11.alloc (.cells #[.int .i64 (x0), .int .i64 (x1), .int .i64 (x2), .int .i64 (x3), .slice xmA xmN xmC, .slice xsA xsN xsC, .int .i64 (xpc), .slice xbA xbN xbC, .slice xqA xqN xqC, .int .i64 (xf)] 41) = w12 at *
      obtain ⟨S1, hS1⟩ : ∃ S, w11.heap.size = S := ⟨_, rfl⟩
      rw [hS1] at X1 ⊢
      clear hS1
      have Y6 := fun j => cell_of_row w12 w6.heap.size j _ _ _ (heap_keep XP9.out hb)
      have Y9 := fun j => cell_of_row w12 S j _ _ _ (heap_keep XC.out hb)
      simp only [Prg.cs] at Y6
      simp only [Cnf.cs] at Y9
      go_wp2_with fail
      refine (HCR.out w12 hb).mono ?_
      rintro en w11 ⟨cy, rfl, hcy, b11⟩
      obtain ⟨⟨y0, y1, y2, y3, ⟨ymA, ymN, ymC⟩, ⟨ysA, ysN, ysC⟩, ypc⟩, ⟨ybA, ybN, ybC⟩, ⟨yqA, yqN, yqC⟩, yf⟩ := cy
      have hb := hb.trans (b11.mono hb.size)
      have HWS := Kept.mk (HWS.out.past b11)
      have hcx := hcx.past b11
      have X1 := heap_keep X1 b11
      clear Y6 Y9 b11
      have Y6 := fun j => cell_of_row w11 w6.heap.size j _ _ _ (heap_keep XP9.out hb)
      have Y9 := fun j => cell_of_row w11 S j _ _ _ (heap_keep XC.out hb)
      go_upto_region 10 with (fail)
      have bX := below_alloc_self w11 (.cells #[.int .i64 (y0), .int .i64 (y1), .int .i64 (y2), .int .i64 (y3), .slice ymA ymN ymC, .slice ysA ysN ysC, .int .i64 (ypc), .slice ybA ybN ybC, .slice yqA yqN yqC, .int .i64 (yf)] 41)
      have hb := hb.trans (bX.mono hb.size)
      have HWAS := Kept.mk (HWS.out.past bX)
      have hcx := hcx.past bX
      have hcy := hcy.past bX
      have X1 := heap_keep X1 bX
      have X2 := heap_alloc_new w11 (.cells #[.int .i64 (y0), .int .i64 (y1), .int .i64 (y2), .int .i64 (y3), .slice ymA ymN ymC, .slice ysA ysN ysC, .int .i64 (ypc), .slice ybA ybN ybC, .slice yqA yqN yqC, .int .i64 (yf)] 41)
      clear Y6 Y9 bX HWS
      generalize w11.alloc (.cells #[.int .i64 (y0), .int .i64 (y1), .int .i64 (y2), .int .i64 (y3), .slice ymA ymN ymC, .slice ysA ysN ysC, .int .i64 (ypc), .slice ybA ybN ybC, .slice yqA yqN yqC, .int .i64 (yf)] 41) = w14 at *
      obtain ⟨S2, hS2⟩ : ∃ S, w11.heap.size = S := ⟨_, rfl⟩
      rw [hS2] at X2 ⊢
      clear hS2
      have XC1 := heap_keep XC.out hb
      have XP1 := heap_keep XP9.out hb
      have X1K : Kept (∀ w1, Below w14.heap.size w14 w1 → CellsAt w1 S1 0 [.int .i64 (x0), .int .i64 (x1), .int .i64 (x2), .int .i64 (x3), .slice xmA xmN xmC, .slice xsA xsN xsC, .int .i64 (xpc), .slice xbA xbN xbC, .slice xqA xqN xqC, .int .i64 (xf)]) := ⟨fun w1 hb => CellsAt.of_block (heap_keep X1 hb)⟩
      have X2K : Kept (∀ w1, Below w14.heap.size w14 w1 → CellsAt w1 S2 0 [.int .i64 (y0), .int .i64 (y1), .int .i64 (y2), .int .i64 (y3), .slice ymA ymN ymC, .slice ysA ysN ysC, .int .i64 (ypc), .slice ybA ybN ybC, .slice yqA yqN yqC, .int .i64 (yf)]) := ⟨fun w1 hb => CellsAt.of_block (heap_keep X2 hb)⟩
      have XCK : Kept (∀ w1, Below w14.heap.size w14 w1 → CellsAt w1 S 0 [.int .i64 (r0), .int .i64 (r1), .int .i64 (r2), .int .i64 (r3), .slice mA m.st.mem.length mC, .slice kA m.st.stack.length kC, .int .i64 (cpc), .slice bA m.buf.length bC, .slice qA m.rsb.length qC, .int .i64 (fin)]) := ⟨fun w1 hb => CellsAt.of_block (heap_keep XC1 hb)⟩
      have XPK : Kept (∀ w1, Below w14.heap.size w14 w1 → CellsAt w1 w6.heap.size 0 [.int .i64 (pW), .int .i64 (pwin), .int .i64 (pfuel), .int .i64 (pr0), .int .i64 (pr1), .int .i64 (pr2), .int .i64 (pr3), .slice pmA ml.length pmC, .slice plA plN plC, .slice pA pN pC]) := ⟨fun w1 hb => CellsAt.of_block (heap_keep XP1 hb)⟩
      have HSAME : Kept (∀ w1, Below w14.heap.size w14 w1 → Calls Try.prog 30 #[.agg #[.int .i64 (x0), .int .i64 (x1), .int .i64 (x2), .int .i64 (x3), .slice xmA xmN xmC, .slice xsA xsN xsC, .int .i64 (xpc), .slice xbA xbN xbC, .slice xqA xqN xqC, .int .i64 (xf)], .agg #[.int .i64 (y0), .int .i64 (y1), .int .i64 (y2), .int .i64 (y3), .slice ymA ymN ymC, .slice ysA ysN ysC, .int .i64 (ypc), .slice ybA ybN ybC, .slice yqA yqN yqC, .int .i64 (yf)]] w1 fun en w' => en = .returned (.bool true) ∧ Below w1.heap.size w1 w') := ⟨fun w1 hb => by
        have := same9 ⟨⟨x0, x1, x2, x3, ⟨xmA, xmN, xmC⟩, ⟨xsA, xsN, xsC⟩, xpc⟩, ⟨xbA, xbN, xbC⟩, ⟨xqA, xqN, xqC⟩, xf⟩ ⟨⟨y0, y1, y2, y3, ⟨ymA, ymN, ymC⟩, ⟨ysA, ysN, ysC⟩, ypc⟩, ⟨ybA, ybN, ybC⟩, ⟨yqA, yqN, yqC⟩, yf⟩ _ _ w1 (hcx.past hb) (hcy.past hb) hqs.1 hqs.2.1 hqs.2.2.1 hqs.2.2.2 hqs.1 hqs.2.1 hqs.2.2.1 hqs.2.2.2
        rw [decide_eq_true rfl] at this
        exact this⟩
      have HCODE : Kept (∀ w1, Below w14.heap.size w14 w1 → Calls Try.prog 34 #[.agg #[.int .i64 (r0), .int .i64 (r1), .int .i64 (r2), .int .i64 (r3), .slice mA m.st.mem.length mC, .slice kA m.st.stack.length kC, .int .i64 (cpc), .slice bA m.buf.length bC, .slice qA m.rsb.length qC, .int .i64 (fin)]] w1 (GivesB w1 (putL L))) := ⟨fun w1 hb1 => HCO.out w1 (hb.trans (hb1.mono hb.size))⟩
      have HCANK := Kept.mk (fun w1 (hb1 : Below w14.heap.size w14 w1) => HCN.out w1 (hb.trans (hb1.mono hb.size)))
      have HBr := Kept.mk (HB9.out.trans (hb.mono HB9.out.size))
      generalize q.isSome = bz at *
      have hbz : (bz != bz) = false := by cases bz <;> rfl
      clear hqs hcx hcy X1 X2 XC1 XP1 HCP HCR HCN hb
      refine region_tell (w14.heap.size) (G := fun _ => True) (ts := [
          .is (Value.bool bz),
          .is (Value.bool bz),
          .is (Value.bool false),
          .is (Value.bool false),
          .is (Value.agg #[.int .i64 (x0), .int .i64 (x1), .int .i64 (x2), .int .i64 (x3), .slice xmA xmN xmC, .slice xsA xsN xsC, .int .i64 (xpc), .slice xbA xbN xbC, .slice xqA xqN xqC, .int .i64 (xf)]),
          .is (Value.agg #[.int .i64 (y0), .int .i64 (y1), .int .i64 (y2), .int .i64 (y3), .slice ymA ymN ymC, .slice ysA ysN ysC, .int .i64 (ypc), .slice ybA ybN ybC, .slice yqA yqN yqC, .int .i64 (yf)]),
          .draws (.bool true),
          .is (Value.bool false),
          .is (Value.bool false),
          .is (Value.bool false),
          .is (Value.agg #[.int .i64 (pW), .int .i64 (pwin), .int .i64 (pfuel), .int .i64 (pr0), .int .i64 (pr1), .int .i64 (pr2), .int .i64 (pr3), .slice pmA ml.length pmC, .slice plA plN plC, .slice pA pN pC]),
          .is (Value.agg #[.int .i64 (r0), .int .i64 (r1), .int .i64 (r2), .int .i64 (r3), .slice mA m.st.mem.length mC, .slice kA m.st.stack.length kC, .int .i64 (cpc), .slice bA m.buf.length bC, .slice qA m.rsb.length qC, .int .i64 (fin)]),
          .draws (.bool bz),
          .is (Value.bool bz),
          .is (Value.bool false),
          .is (Value.bool false),
          .is (Value.bool false),
          .is (Value.agg #[.int .i64 (r0), .int .i64 (r1), .int .i64 (r2), .int .i64 (r3), .slice mA m.st.mem.length mC, .slice kA m.st.stack.length kC, .int .i64 (cpc), .slice bA m.buf.length bC, .slice qA m.rsb.length qC, .int .i64 (fin)]),
          .makes (fun v w' => OwnB w' w14.heap.size v (putL L)),
          .is (.string ⟨(putL L).toArray⟩),
          .is (Value.slice wA ((putL L).length) wC),
          .is (.string ⟨(putL L).toArray⟩),
          .is (.bool false),
          .is (Value.bool false)])
        (fin := []) (cs := []) (by kernel_rfl) rfl (by kernel_rfl) (by kernel_rfl)
        ⟨trivial, trivial, trivial, trivial, trivial, trivial, trivial, trivial, trivial, trivial, trivial, trivial, trivial, trivial, trivial, trivial, trivial, trivial, (fun _ _ _ h hb => OwnB.past h hb), trivial, trivial, trivial, trivial, trivial, trivial⟩ (fun _ _ _ _ => trivial) (by simp) (by simp) trivial
        ⟨?_, ?_, ?_, ?_, ?_, ?_, ?_, ?_, ?_, ?_, ?_, ?_, ?_, ?_, ?_, ?_, ?_, ?_, ?_, ?_, ?_, ?_, ?_, ?_, trivial⟩ ?_
      · intro vals w1 hB _ hd
        clear hd
        refine one_value (v := Value.bool bz) rfl ?_ (post_is rfl)
        kernel_rfl
      · intro vals w1 hB _ hd
        clear hd
        refine one_value (v := Value.bool bz) rfl ?_ (post_is rfl)
        kernel_rfl
      · intro vals w1 hB _ hd
        clear hd
        refine one_value (v := Value.bool false) rfl ?_ (post_is rfl)
        exact Eq.trans (b := .ok (.value (.bool ((bz) != (bz)))) w1) (by kernel_rfl) (by rw [hbz])
      · intro vals w1 hB _ hd
        clear hd
        refine one_value (v := Value.bool false) rfl ?_ (post_is rfl)
        kernel_rfl
      · intro vals w1 hB _ hd
        clear hd
        refine one_value_g (v := Value.agg #[.int .i64 (x0), .int .i64 (x1), .int .i64 (x2), .int .i64 (x3), .slice xmA xmN xmC, .slice xsA xsN xsC, .int .i64 (xpc), .slice xbA xbN xbC, .slice xqA xqN xqC, .int .i64 (xf)]) (by kernel_rfl) ?_ (post_is rfl)
        exact exec_load_row rfl (b := S1) (off := 0) (by kernel_rfl) [.int .i64 (x0), .int .i64 (x1), .int .i64 (x2), .int .i64 (x3), .slice xmA xmN xmC, .slice xsA xsN xsC, .int .i64 (xpc), .slice xbA xbN xbC, .slice xqA xqN xqC, .int .i64 (xf)] (X1K.out w1 hB) Try.underlying41 rfl (by kernel_rfl)
      · intro vals w1 hB _ hd
        clear hd
        refine one_value_g (v := Value.agg #[.int .i64 (y0), .int .i64 (y1), .int .i64 (y2), .int .i64 (y3), .slice ymA ymN ymC, .slice ysA ysN ysC, .int .i64 (ypc), .slice ybA ybN ybC, .slice yqA yqN yqC, .int .i64 (yf)]) (by kernel_rfl) ?_ (post_is rfl)
        exact exec_load_row rfl (b := S2) (off := 0) (by kernel_rfl) [.int .i64 (y0), .int .i64 (y1), .int .i64 (y2), .int .i64 (y3), .slice ymA ymN ymC, .slice ysA ysN ysC, .int .i64 (ypc), .slice ybA ybN ybC, .slice yqA yqN yqC, .int .i64 (yf)] (X2K.out w1 hB) Try.underlying41 rfl (by kernel_rfl)
      · intro vals w1 hB _ hd
        clear hd
        refine one_calls_g (f := 30) (args := #[.agg #[.int .i64 (x0), .int .i64 (x1), .int .i64 (x2), .int .i64 (x3), .slice xmA xmN xmC, .slice xsA xsN xsC, .int .i64 (xpc), .slice xbA xbN xbC, .slice xqA xqN xqC, .int .i64 (xf)], .agg #[.int .i64 (y0), .int .i64 (y1), .int .i64 (y2), .int .i64 (y3), .slice ymA ymN ymC, .slice ysA ysN ysC, .int .i64 (ypc), .slice ybA ybN ybC, .slice yqA yqN yqC, .int .i64 (yf)]]) (w1 := w1) (by kernel_rfl) (by kernel_rfl) ?_
        refine (HSAME.out w1 hB).mono ?_
        rintro e1 w3 ⟨rfl, hb⟩
        exact ⟨_, rfl, post_draws rfl hb⟩
      · intro vals w1 hB _ hd
        clear hd
        refine one_value_g (v := Value.bool false) (by kernel_rfl) ?_ (post_is rfl)
        kernel_rfl
      · intro vals w1 hB _ hd
        clear hd
        refine one_value (v := Value.bool false) rfl ?_ (post_is rfl)
        kernel_rfl
      · intro vals w1 hB _ hd
        clear hd
        refine one_value (v := Value.bool false) rfl ?_ (post_is rfl)
        kernel_rfl
      · intro vals w1 hB _ hd
        clear hd
        refine one_value_g (v := Value.agg #[.int .i64 (pW), .int .i64 (pwin), .int .i64 (pfuel), .int .i64 (pr0), .int .i64 (pr1), .int .i64 (pr2), .int .i64 (pr3), .slice pmA ml.length pmC, .slice plA plN plC, .slice pA pN pC]) (by kernel_rfl) ?_ (post_is rfl)
        exact exec_load_row rfl (b := w6.heap.size) (off := 0) (by kernel_rfl) [.int .i64 (pW), .int .i64 (pwin), .int .i64 (pfuel), .int .i64 (pr0), .int .i64 (pr1), .int .i64 (pr2), .int .i64 (pr3), .slice pmA ml.length pmC, .slice plA plN plC, .slice pA pN pC] (XPK.out w1 hB) Try.underlying33 rfl (by kernel_rfl)
      · intro vals w1 hB _ hd
        clear hd
        refine one_value_g (v := Value.agg #[.int .i64 (r0), .int .i64 (r1), .int .i64 (r2), .int .i64 (r3), .slice mA m.st.mem.length mC, .slice kA m.st.stack.length kC, .int .i64 (cpc), .slice bA m.buf.length bC, .slice qA m.rsb.length qC, .int .i64 (fin)]) (by kernel_rfl) ?_ (post_is rfl)
        exact exec_load_row rfl (b := S) (off := 0) (by kernel_rfl) [.int .i64 (r0), .int .i64 (r1), .int .i64 (r2), .int .i64 (r3), .slice mA m.st.mem.length mC, .slice kA m.st.stack.length kC, .int .i64 (cpc), .slice bA m.buf.length bC, .slice qA m.rsb.length qC, .int .i64 (fin)] (XCK.out w1 hB) Try.underlying41 rfl (by kernel_rfl)
      · intro vals w1 hB _ hd
        clear hd
        refine one_calls_g (f := 29) (args := #[.agg #[.int .i64 (pW), .int .i64 (pwin), .int .i64 (pfuel), .int .i64 (pr0), .int .i64 (pr1), .int .i64 (pr2), .int .i64 (pr3), .slice pmA ml.length pmC, .slice plA plN plC, .slice pA pN pC], .agg #[.int .i64 (r0), .int .i64 (r1), .int .i64 (r2), .int .i64 (r3), .slice mA m.st.mem.length mC, .slice kA m.st.stack.length kC, .int .i64 (cpc), .slice bA m.buf.length bC, .slice qA m.rsb.length qC, .int .i64 (fin)]]) (w1 := w1) (by kernel_rfl) (by kernel_rfl) ?_
        refine (HCANK.out w1 hB).mono ?_
        rintro e1 w3 ⟨rfl, hb⟩
        exact ⟨_, rfl, post_draws rfl hb⟩
      · intro vals w1 hB _ hd
        clear hd
        refine one_value_g (v := Value.bool bz) (by kernel_rfl) ?_ (post_is rfl)
        kernel_rfl
      · intro vals w1 hB _ hd
        clear hd
        refine one_value_g (v := Value.bool false) (by kernel_rfl) ?_ (post_is rfl)
        exact Eq.trans (b := .ok (.value (.bool ((bz) != (bz)))) w1) (by kernel_rfl) (by rw [hbz])
      · intro vals w1 hB _ hd
        clear hd
        refine one_value (v := Value.bool false) rfl ?_ (post_is rfl)
        kernel_rfl
      · intro vals w1 hB _ hd
        clear hd
        refine one_value (v := Value.bool false) rfl ?_ (post_is rfl)
        kernel_rfl
      · intro vals w1 hB _ hd
        clear hd
        refine one_value_g (v := Value.agg #[.int .i64 (r0), .int .i64 (r1), .int .i64 (r2), .int .i64 (r3), .slice mA m.st.mem.length mC, .slice kA m.st.stack.length kC, .int .i64 (cpc), .slice bA m.buf.length bC, .slice qA m.rsb.length qC, .int .i64 (fin)]) (by kernel_rfl) ?_ (post_is rfl)
        exact exec_load_row rfl (b := S) (off := 0) (by kernel_rfl) [.int .i64 (r0), .int .i64 (r1), .int .i64 (r2), .int .i64 (r3), .slice mA m.st.mem.length mC, .slice kA m.st.stack.length kC, .int .i64 (cpc), .slice bA m.buf.length bC, .slice qA m.rsb.length qC, .int .i64 (fin)] (XCK.out w1 hB) Try.underlying41 rfl (by kernel_rfl)
      · intro vals w1 hB _ hd
        clear hd
        refine one_calls_g (f := 34) (args := #[.agg #[.int .i64 (r0), .int .i64 (r1), .int .i64 (r2), .int .i64 (r3), .slice mA m.st.mem.length mC, .slice kA m.st.stack.length kC, .int .i64 (cpc), .slice bA m.buf.length bC, .slice qA m.rsb.length qC, .int .i64 (fin)]]) (w1 := w1) (by kernel_rfl) (by kernel_rfl) ?_
        refine (HCODE.out w1 hB).mono ?_
        rintro e1 w3 ⟨v3, rfl, ho, hb⟩
        exact ⟨_, rfl, post_makes rfl (OwnB.lower ho hB.size) hb⟩
      · intro vals w1 hB _ hd
        have da : OwnB w1 w14.heap.size (vals 18) (putL L) := hd 18 (by kernel_rfl)
        clear hd
        obtain ⟨A5, c5, e5, _, r5⟩ := OwnB.shape da
        refine one_value_g (v := .string ⟨(putL L).toArray⟩) (by kernel_rfl) ?_ (post_is rfl)
        rw [vals_at e5]
        have hst := run_string (w := w1) (c := c5) r5 rfl
        simp only [fillT, Tell.is, Tell.draws, Tell.makes, Tell.gets, Act.put, List.setIfInBounds_toArray, List.set_cons_zero, List.set_cons_succ]
        go_simp
      · intro vals w1 hB _ hd
        clear hd
        refine one_value_g (v := Value.slice wA ((putL L).length) wC) (by kernel_rfl) ?_ (post_is rfl)
        kernel_rfl
      · intro vals w1 hB _ hd
        clear hd
        refine one_value_g (v := .string ⟨(putL L).toArray⟩) (by kernel_rfl) ?_ (post_is rfl)
        have hst := run_string (w := w1) (c := wC) (HWAS.out.past hB) rfl
        simp only [fillT, Tell.is, Tell.draws, Tell.makes, Tell.gets, Act.put, List.setIfInBounds_toArray, List.set_cons_zero, List.set_cons_succ]
        go_simp
      · intro vals w1 hB _ hd
        clear hd
        refine one_value_g (v := .bool false) (by kernel_rfl) ?_ (post_is rfl)
        refine Eq.trans (b := .ok (.value (.bool (!((⟨(putL L).toArray⟩ : ByteArray).toList == (⟨(putL L).toArray⟩ : ByteArray).toList)))) w1) (by kernel_rfl) ?_
        rw [str_eq, decide_eq_true rfl]
        rfl
      · intro vals w1 hB _ hd
        clear hd
        refine one_value (v := Value.bool false) rfl ?_ (post_is rfl)
        kernel_rfl
      intro vals w15 b15 _ hr
      clear hr
      simp only [fillT, Tell.is, Tell.draws, Tell.makes, Act.put, List.setIfInBounds_toArray, List.set_cons_zero, List.set_cons_succ]
      have HBe := Kept.mk (HBr.out.trans (b15.mono HBr.out.size))
      clear HSAME HCODE HWAS X1K X2K XCK XPK HCANK
      go_wp2_with fail
      go_roundw
      case rel => exact ⟨n + 3, by go_num, by omega, HBe.out⟩
      case measure => simp [intOf]; omega
    · have Y : (¬ n ≤ wk.length) ∨ (n ≤ wk.length ∧ ¬ n < 40) := by omega
      clear hlt
      rcases Y with hn1 | ⟨hn1, hn2⟩
      · have hq1 : decide (((n : Nat) : Int) ≤ (wk.length : Int)) = false := by simpa using hn1
        clear HPU
        go_wp2_with fail
        refine (HAW.out _).mono ?_
        rintro en w14 ⟨rfl, b14⟩
        have WX := Kept.mk ((W8.out.trans (HBR.out.mono W8.out.size)).trans (b14.mono (by have := HBR.out.size; have := W8.out.size; omega)))
        clear b14
        go_wp2_with fail
        go_ret
        exact ⟨rfl, WX.out⟩
      · have hq1 : decide (((n : Nat) : Int) ≤ (wk.length : Int)) = true := by simpa using hn1
        have hq2 : decide (((n : Nat) : Int) < 40) = false := by simp; omega
        clear HPU
        go_wp2_with fail
        refine (HAW.out _).mono ?_
        rintro en w14 ⟨rfl, b14⟩
        have WX := Kept.mk ((W8.out.trans (HBR.out.mono W8.out.size)).trans (b14.mono (by have := HBR.out.size; have := W8.out.size; omega)))
        clear b14
        go_wp2_with fail
        go_ret
        exact ⟨rfl, WX.out⟩
theorem rttells_law (A2 : Option Addr) (c2 : Nat) (mk : List Int) (A3 : Option Addr) (c3 : Nat) (l : List Int) (A4 : Option Addr) (c4 : Nat) (wk : List Int) (w : World) (_hc2 : mk.length ≤ c2) (_hm2 : c2 ≤ maxLen) (hr2 : RdI w A2 mk) (_ok2 : ∀ x ∈ mk, -9223372036854775808 ≤ x ∧ x ≤ 9223372036854775807) (_hc3 : l.length ≤ c3) (_hm3 : c3 ≤ maxLen) (hr3 : RdI w A3 l) (_ok3 : ∀ x ∈ l, -9223372036854775808 ≤ x ∧ x ≤ 9223372036854775807) (_hc4 : wk.length ≤ c4) (_hm4 : c4 ≤ maxLen) (hr4 : RdI w A4 wk) (_ok4 : ∀ x ∈ wk, -9223372036854775808 ≤ x ∧ x ≤ 9223372036854775807) :
    Calls Try.prog 7 #[.slice A2 mk.length c2, .slice A3 l.length c3, .slice A4 wk.length c4] w (SaysTrue w) := rttells_walk A2 c2 mk A3 c3 l A4 c4 wk w _hc4 hr2 hr3 hr4
end Go.Proofs.Ytchldbkjapnlcaa
