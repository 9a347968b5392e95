/- The law RetiOldest: to commit takes the oldest alone. -/
import Derived.Test.YtchldbkjapnlcaaJr
import Derived.Test.YtchldbkjapnlcaaJOldreg
import Derived.Test.YtchldbkjapnlcaaJu
import Derived.Deep.DeepCutAuto
import Derived.BigQuiet
set_option linter.unusedVariables false
set_option linter.unusedSimpArgs false
namespace Go.Proofs.Ytchldbkjapnlcaa
open Go.RowKit

set_option maxRecDepth 100000 in
set_option maxHeartbeats 3000000 in
theorem rtold_walk (A2 : Option Addr) (c2 : Nat) (mk : List Int) (A3 : Option Addr) (c3 : Nat) (l : List Int) (A4 : Option Addr) (c4 : Nat) (wk : List Int) (w : World) (hr2 : RdI w A2 mk) (hr3 : RdI w A3 l) (hr4 : RdI w A4 wk) :
    Calls Try.prog 5 #[.slice A2 mk.length c2, .slice A3 l.length c3, .slice A4 wk.length c4] w (SaysTrue w) := by
  have HAW := Kept.mk awake16
  have HR2 := Kept.mk hr2
  have HR3 := Kept.mk hr3
  have HR4 := Kept.mk hr4
  clear hr2 hr3 hr4
  go_enter Try.func5, Try.ntmps5
  go_wp2_with fail
  refine (make_at A2 mk mk.length c2 w rfl HR2.out).mono ?_
  rintro en w6 ⟨p, il, ml, rfl, hmk, b6⟩
  have W6 := Kept.mk b6
  obtain ⟨pmA, pmC, hpm, -, -⟩ := hmk.mem
  obtain ⟨plA, plN, plC, hpl⟩ := hmk.lab
  obtain ⟨pW, pwin, pfuel, pr0, pr1, pr2, pr3, pmems, plabels, pA, pN, pC⟩ := p
  simp only at hpm hpl
  subst hpm hpl
  have HMK := Kept.mk hmk
  clear hmk b6
  obtain ⟨HPM, hPM⟩ : ∃ x : Kept (ProgOk pW pwin il), x = x := ⟨⟨make_prog HMK.out⟩, rfl⟩
  clear hPM
  go_wp2_with fail
  have ba := below_alloc_self w6 (.cells (Prg.cs (⟨pW, pwin, pfuel, pr0, pr1, pr2, pr3, .slice pmA ml.length pmC, .slice plA plN plC, pA, pN, pC⟩ : Prg)).toArray 33)
  refine (states_mach (⟨pW, pwin, pfuel, pr0, pr1, pr2, pr3, .slice pmA ml.length pmC, .slice plA plN plC, pA, pN, pC⟩ : Prg) il ml A3 l l.length c3 (w6.alloc (.cells (Prg.cs (⟨pW, pwin, pfuel, pr0, pr1, pr2, pr3, .slice pmA ml.length pmC, .slice plA plN plC, pA, pN, pC⟩ : Prg)).toArray 33)) rfl (HMK.out.past ba) (HR3.out.past (W6.out.trans (ba.mono W6.out.size)))).mono ?_
  rintro en w7 ⟨s, t, ms, mt, rfl, hs, ht, b7⟩
  have XP := Kept.mk (heap_keep (heap_alloc_new w6 (.cells (Prg.cs (⟨pW, pwin, pfuel, pr0, pr1, pr2, pr3, .slice pmA ml.length pmC, .slice plA plN plC, pA, pN, pC⟩ : Prg)).toArray 33)) b7)
  have W7 := Kept.mk ((W6.out.trans (ba.mono W6.out.size)).trans (b7.mono (by have := W6.out.size; simp; omega)))
  have HMK := Kept.mk ((HMK.out.past ba).past b7)
  have HS := Kept.mk hs
  have HT := Kept.mk ht
  clear hs ht b7 ba
  obtain ⟨s0, s1, s2, s3, ⟨sA, sN, sC⟩, ⟨uA, uN, uC⟩, s6⟩ := s
  obtain ⟨t0, t1, t2, t3, ⟨tA, tN, tC⟩, ⟨vA, vN, vC⟩, t6⟩ := t
  go_upto_region 3 with (fail)
  have bb := (below_alloc_self w7 (.cells #[.int .i64 s0, .int .i64 s1, .int .i64 s2, .int .i64 s3, .slice sA sN sC, .slice uA uN uC, .int .i64 s6] 36)).alloc (by simp) (.cells #[.int .i64 t0, .int .i64 t1, .int .i64 t2, .int .i64 t3, .slice tA tN tC, .slice vA vN vC, .int .i64 t6] 36)
  have XS := Kept.mk ((heap_alloc_old _ _ (by simp)).trans (heap_alloc_new w7 (.cells #[.int .i64 s0, .int .i64 s1, .int .i64 s2, .int .i64 s3, .slice sA sN sC, .slice uA uN uC, .int .i64 s6] 36)) : ((w7.alloc (.cells #[.int .i64 s0, .int .i64 s1, .int .i64 s2, .int .i64 s3, .slice sA sN sC, .slice uA uN uC, .int .i64 s6] 36)).alloc (.cells #[.int .i64 t0, .int .i64 t1, .int .i64 t2, .int .i64 t3, .slice tA tN tC, .slice vA vN vC, .int .i64 t6] 36)).heap[w7.heap.size]? = some (.cells #[.int .i64 s0, .int .i64 s1, .int .i64 s2, .int .i64 s3, .slice sA sN sC, .slice uA uN uC, .int .i64 s6] 36))
  have XT := Kept.mk (heap_alloc2_new w7 (.cells #[.int .i64 s0, .int .i64 s1, .int .i64 s2, .int .i64 s3, .slice sA sN sC, .slice uA uN uC, .int .i64 s6] 36) (.cells #[.int .i64 t0, .int .i64 t1, .int .i64 t2, .int .i64 t3, .slice tA tN tC, .slice vA vN vC, .int .i64 t6] 36))
  have XP := Kept.mk (heap_keep XP.out bb)
  have W8 := Kept.mk (W7.out.trans (bb.mono W7.out.size))
  have HMK := Kept.mk (HMK.out.past bb)
  have HS := Kept.mk (HS.out.past bb)
  have HT := Kept.mk (HT.out.past bb)
  clear bb
  generalize (w7.alloc (.cells #[.int .i64 s0, .int .i64 s1, .int .i64 s2, .int .i64 s3, .slice sA sN sC, .slice uA uN uC, .int .i64 s6] 36)).alloc (.cells #[.int .i64 t0, .int .i64 t1, .int .i64 t2, .int .i64 t3, .slice tA tN tC, .slice vA vN vC, .int .i64 t6] 36) = w8 at *
  have Y6 := fun j => cell_of_row w8 w6.heap.size j _ _ _ XP.out
  have Y7 := fun j => cell_of_row w8 w7.heap.size j _ _ _ XS.out
  simp only [Prg.cs] at Y6
  go_wp2_with fail
  refine (walk_mach (⟨pW, pwin, pfuel, pr0, pr1, pr2, pr3, .slice pmA ml.length pmC, .slice plA plN plC, pA, pN, pC⟩ : Prg) il ml ⟨s0, s1, s2, s3, ⟨sA, sN, sC⟩, ⟨uA, uN, uC⟩, s6⟩ ms A4 wk wk.length c4 w8 rfl HMK.out HS.out (HR4.out.past W8.out)).mono ?_
  rintro en w9 ⟨c, m, dv, out, k, rfl, hm, hd, _, b9⟩
  obtain ⟨dA, dC, rfl, -, -⟩ := hd.shape
  have W9 := Kept.mk (W8.out.trans (b9.mono W8.out.size))
  have XP := Kept.mk (heap_keep XP.out b9)
  have HM := Kept.mk hm
  clear hd b9 hm Y6 Y7 HS HMK XS HT XT
  obtain ⟨⟨r0, r1, r2, r3, ⟨mA, mN, mC⟩, ⟨kA, kN, kC⟩, cpc⟩, ⟨bA, bN, bC⟩, ⟨qA, qN, qC⟩, fin⟩ := c
  have hbn : bN = m.buf.length := HM.out.cf.buf.n
  have hkn : kN = m.st.stack.length := HM.out.cf.st.stack.n
  have hmn : mN = m.st.mem.length := HM.out.cf.st.mem.n
  have hqn : qN = m.rsb.length := HM.out.cf.rsb.n
  subst hbn hkn hmn hqn
  have HF := Kept.mk (inv_fit HM.out.ok HM.out.inv (Nat.le_trans HM.out.kl (by decide)) HM.out.ll)
  go_upto_region 4 with (fail)
  have bc := below_alloc_self w9 (.cells #[.int .i64 r0, .int .i64 r1, .int .i64 r2, .int .i64 r3, .slice mA m.st.mem.length mC, .slice kA m.st.stack.length kC, .int .i64 cpc, .slice bA m.buf.length bC, .slice qA m.rsb.length qC, .int .i64 fin] 41)
  have XC := Kept.mk (heap_alloc_new w9 (.cells #[.int .i64 r0, .int .i64 r1, .int .i64 r2, .int .i64 r3, .slice mA m.st.mem.length mC, .slice kA m.st.stack.length kC, .int .i64 cpc, .slice bA m.buf.length bC, .slice qA m.rsb.length qC, .int .i64 fin] 41))
  have XP := Kept.mk (heap_keep XP.out bc)
  have W10 := Kept.mk (W9.out.trans (bc.mono W9.out.size))
  have HM := Kept.mk (HM.out.past bc)
  clear bc
  generalize w9.alloc (.cells #[.int .i64 r0, .int .i64 r1, .int .i64 r2, .int .i64 r3, .slice mA m.st.mem.length mC, .slice kA m.st.stack.length kC, .int .i64 cpc, .slice bA m.buf.length bC, .slice qA m.rsb.length qC, .int .i64 fin] 41) = w10 at *
  have HCP := Kept.mk (fun w1 (hb : Below w10.heap.size w10 w1) => pretire_any (⟨pW, pwin, pfuel, pr0, pr1, pr2, pr3, .slice pmA ml.length pmC, .slice plA plN plC, pA, pN, pC⟩ : Prg) il ⟨⟨r0, r1, r2, r3, ⟨mA, m.st.mem.length, mC⟩, ⟨kA, m.st.stack.length, kC⟩, cpc⟩, ⟨bA, m.buf.length, bC⟩, ⟨qA, m.rsb.length, qC⟩, fin⟩ m w1 (HM.out.past hb).pi (HM.out.past hb).cf HF.out.ml HF.out.sl HF.out.bl HF.out.rl HF.out.sm HF.out.rt)
  have Y6 := fun j => cell_of_row w10 w6.heap.size j _ _ _ XP.out
  have Y9 := fun j => cell_of_row w10 w9.heap.size j _ _ _ XC.out
  simp only [Prg.cs] at Y6
  go_wp2_with fail
  refine (HCP.out w10 (Below.refl _ _)).mono ?_
  rintro en w11 ⟨cx, rfl, hcx, b11⟩
  obtain ⟨⟨x0, x1, x2, x3, ⟨xmA, xmN, xmC⟩, ⟨xsA, xsN, xsC⟩, xpc⟩, ⟨xbA, xbN, xbC⟩, ⟨xqA, xqN, xqC⟩, xf⟩ := cx
  have Y9 := fun j => cell_of_row w11 w9.heap.size j _ _ _ (heap_keep XC.out b11)
  clear Y6 HCP
  go_upto_region 5 with (fail)
  have bX := below_alloc_self w11 (.cells #[.int .i64 (x0), .int .i64 (x1), .int .i64 (x2), .int .i64 (x3), .slice xmA xmN xmC, .slice xsA xsN xsC, .int .i64 (xpc), .slice xbA xbN xbC, .slice xqA xqN xqC, .int .i64 (xf)] 41)
  have hb := b11.trans (bX.mono b11.size)
  have X1 := heap_alloc_new w11 (.cells #[.int .i64 (x0), .int .i64 (x1), .int .i64 (x2), .int .i64 (x3), .slice xmA xmN xmC, .slice xsA xsN xsC, .int .i64 (xpc), .slice xbA xbN xbC, .slice xqA xqN xqC, .int .i64 (xf)] 41)
  have hcx := hcx.past bX
  clear Y9 bX b11
  generalize w11.alloc (.cells #[.int .i64 (x0), .int .i64 (x1), .int .i64 (x2), .int .i64 (x3), .slice xmA xmN xmC, .slice xsA xsN xsC, .int .i64 (xpc), .slice xbA xbN xbC, .slice xqA xqN xqC, .int .i64 (xf)] 41) = w12 at *
  obtain ⟨S1, hS1⟩ : ∃ S, w11.heap.size = S := ⟨_, rfl⟩
  rw [hS1] at X1 ⊢
  clear hS1
  have HB := Kept.mk hb
  have K1 := Kept.mk X1
  cases hcan : canRetOf il m with
  | false =>
    have hq : retQ il m = none := by unfold retQ; rw [if_neg (by rw [hcan]; decide)]
    rw [hq] at hcx ⊢
    clear hcx X1 hb
    go_wp2_with fail
    refine (HAW.out _).mono ?_
    rintro en wz ⟨rfl, bz⟩
    have WX := Kept.mk ((W10.out.trans (HB.out.mono W10.out.size)).trans (bz.mono (by have := HB.out.size; have := W10.out.size; omega)))
    clear bz
    go_wp2_with fail
    go_ret
    exact ⟨rfl, WX.out⟩
  | true =>
    have hq : retQ il m = some (retireOf il m) := by unfold retQ; rw [if_pos hcan]
    rw [hq] at hcx ⊢
    have hcx : CfOwn w12 w10.heap.size ⟨⟨x0, x1, x2, x3, ⟨xmA, xmN, xmC⟩, ⟨xsA, xsN, xsC⟩, xpc⟩, ⟨xbA, xbN, xbC⟩, ⟨xqA, xqN, xqC⟩, xf⟩ (retireOf il m) := hcx
    obtain ⟨e, t, hbuf, hfin0, -, -⟩ := canRet_parts hcan
    have hre := retireOf_eq (il := il) hbuf
    obtain ⟨-, -, -, hfd⟩ := HF.out.rt hcan e t hbuf
    have hbn : m.buf.length = t.length + 1 := by rw [hbuf]; rfl
    have hcf := (HM.out.past hb).cf
    have XC1 := heap_keep XC.out hb
    generalize hxi : instAt il e.pc = xi at *
    generalize hF : endOf xi e = F at *
    rw [hre] at hcx
    by_cases hF0 : F = 0
    · subst hF0
      rw [if_neg (by decide)] at hcx
      obtain ⟨c1, c2, c3, c4, c5, c6⟩ := commit_one { m with buf := popEnts (e :: t), fin := m.fin } e xi hfd
      simp only at c1 c2 c3 c4 c5 c6
      generalize commitOf { m with buf := popEnts (e :: t), fin := m.fin } e xi = d at *
      have hxm : xmN = m.st.mem.length := by have h := hcx.is.st.mem.n; simp only at h; omega
      have hxf : xf = 0 := by have h := hcx.fin; simp only at h; omega
      have hxb : xbN = (popEnts m.buf).length := by have h := hcx.is.buf.n; simp only at h; rw [hbuf]; rw [c2] at h; exact h
      have hxq : xqN = m.rsb.length := by have h := hcx.is.rsb.n; simp only at h; rw [c3] at h; exact h
      have hxpc : cpc = xpc := by have h := hcx.st.pc; have h2 := hcf.st.pc; simp only at h h2; omega
      have hxs : xsN = d.st.stack.length := hcx.is.st.stack.n
      subst hxm hxf hxb hxq hxpc hxs
      have hmem := hcx.is.st.mem.r
      have hxbr : RdE w12 xbA (popEnts m.buf) := by have h := hcx.is.buf.r; rw [c2] at h; rw [hbuf]; exact h
      have hcm := hcf.st.mem.r
      have e0 : x0 = d.st.r0 := hcx.st.r0
      have e1 : x1 = d.st.r1 := hcx.st.r1
      have e2 : x2 = d.st.r2 := hcx.st.r2
      have e3 : x3 = d.st.r3 := hcx.st.r3
      have f0 : r0 = m.st.r0 := hcf.st.r0
      have f1 : r1 = m.st.r1 := hcf.st.r1
      have f2 : r2 = m.st.r2 := hcf.st.r2
      have f3 : r3 = m.st.r3 := hcf.st.r3
      have hcr : cntI (regsOf d.st) (regsOf m.st) 4 = cntI [x0, x1, x2, x3] [r0, r1, r2, r3] 4 := by rw [e0, e1, e2, e3, f0, f1, f2, f3]; rfl
      rw [hcr] at c6
      have hml := HF.out.ml
      generalize d.st.mem = dm at *
      generalize d.st.stack.length = ds at *
      have HC6 := Kept.mk c6
      have HDM := Kept.mk hmem
      have HCMM := Kept.mk hcm
      have HXB := Kept.mk hxbr
      have HC1 := Kept.mk c1
      have HBF := Kept.mk hcf.buf.r
      clear c1 c2 c3 c4 c5 c6 hmem hxbr hcm e0 e1 e2 e3 f0 f1 f2 f3 hcr hcx hre hbuf hfin0 hfd hbn hq hcan hcf hxi hF
      have Y1 := fun j => cell_of_row w12 S1 j _ _ _ X1
      have Y9 := fun j => cell_of_row w12 w9.heap.size j _ _ _ XC1
      have hnn : ((m.st.mem.length : Int) != (m.st.mem.length : Int)) = false := by simp
      clear X1 XC1 hb
      go_wp2_with fail
      go_loopw [14, 90] (fun tv iv wr => ∃ k : Nat, iv = .int .i64 ((k : Nat) : Int) ∧ tv = .int .i64 ((cntI dm m.st.mem k : Nat) : Int) ∧ k ≤ m.st.mem.length ∧ Below w12.heap.size w12 wr) (fun _ iv _ => m.st.mem.length - (intOf iv).toNat)
      case atStart => exact ⟨0, rfl, rfl, Nat.zero_le _, Below.refl _ _⟩
      case round =>
        obtain ⟨k, rfl, rfl, hk, hbr⟩ := hrel
        have HBR := Kept.mk hbr
        have Y1 := fun j => cell_of_row wr S1 j _ _ _ (heap_keep K1.out hbr)
        have Y9 := fun j => cell_of_row wr w9.heap.size j _ _ _ (heap_keep XC.out (HB.out.trans (hbr.mono HB.out.size)))
        by_cases hlt : k < m.st.mem.length
        · have hki : (k : Int) < (m.st.mem.length : Int) := by omega
          have hkd : k < dm.length := by rw [HC1.out]; exact hlt
          obtain ⟨ga, oa, rfl, -, qa⟩ := RdI.at_ (HDM.out.past hbr) hkd
          obtain ⟨gb, ob, rfl, -, qb⟩ := RdI.at_ (HCMM.out.past hbr) hlt
          have hcl := cntI_le dm m.st.mem k
          have wk1 : IntKind.i64.wrap ((k : Int) + 1) = (k : Int) + 1 := IntWalk.i64_in _ (by omega)
          have wc1 : IntKind.i64.wrap (((cntI dm m.st.mem k : Nat) : Int) + 1) = ((cntI dm m.st.mem k : Nat) : Int) + 1 := IntWalk.i64_in _ (by omega)
          have hs : cntI dm m.st.mem (k + 1) = cntI dm m.st.mem k + (if dm[k] = m.st.mem[k] then 0 else 1) := by rw [cntI, List.getElem?_eq_getElem hkd, List.getElem?_eq_getElem hlt]; simp only [Option.some.injEq]
          generalize dm[k] = va at *
          generalize m.st.mem[k] = vb at *
          generalize hct : cntI dm m.st.mem k = ct at *
          clear hbr hcl
          by_cases hv : va = vb
          · have hvq : (va != vb) = false := by simp [hv]
            rw [if_pos hv, Nat.add_zero] at hs
            have HS := Kept.mk hs
            clear hs hv
            go_upto_region 15 with (fail)
            go_quiet (fail)
            go_wp2_with fail
            go_roundw
            case rel => exact ⟨k + 1, by go_num, by rw [HS.out]; rfl, by omega, HBR.out.trans ⟨rfl, rfl, rfl, Nat.le_refl _, fun _ _ => rfl⟩⟩
            case measure => simp [intOf]; omega
          · have hvq : (va != vb) = true := by simp [hv]
            rw [if_neg hv] at hs
            have HS := Kept.mk hs
            clear hs hv
            go_upto_region 15 with (fail)
            go_quiet (fail)
            go_wp2_with fail
            go_roundw
            case rel => exact ⟨k + 1, by go_num, by rw [HS.out]; go_num, by omega, HBR.out.trans ⟨rfl, rfl, rfl, Nat.le_refl _, fun _ _ => rfl⟩⟩
            case measure => simp [intOf]; omega
        · have hki : ¬ (k : Int) < (m.st.mem.length : Int) := by omega
          have hkk : k = m.st.mem.length := by omega
          subst hkk
          have hcl := cntI_le dm m.st.mem m.st.mem.length
          have HC6' := Kept.mk HC6.out
          generalize cntI dm m.st.mem m.st.mem.length = ct at *
          clear Y1 Y9 hbr
          go_wp2_with fail
          go_loopw [14, 16] (fun tv iv wq => ∃ (k : Nat) (i : Int), i = ((k : Nat) : Int) ∧ iv = .int .i64 i ∧ tv = .int .i64 ((ct + cntI [x0, x1, x2, x3] [r0, r1, r2, r3] k : Nat) : Int) ∧ k ≤ 4 ∧ Below w12.heap.size w12 wq) (fun _ iv _ => 4 - (intOf iv).toNat)
          case atStart => exact ⟨0, 0, rfl, rfl, by simp [cntI], by omega, HBR.out⟩
          case round =>
            obtain ⟨k, i, hik, rfl, rfl, hk4, hbr⟩ := hrel
            have HBQ := Kept.mk hbr
            have Y1 := fun j => cell_of_row wr S1 j _ _ _ (heap_keep K1.out hbr)
            have Y9 := fun j => cell_of_row wr w9.heap.size j _ _ _ (heap_keep XC.out (HB.out.trans (hbr.mono HB.out.size)))
            have hcl2 := cntI_le [x0, x1, x2, x3] [r0, r1, r2, r3] k
            clear hbr
            by_cases hlt : k < 4
            · have hk' : k = 0 ∨ k = 1 ∨ k = 2 ∨ k = 3 := by omega
              clear hlt hk4
              rcases hk' with rfl | rfl | rfl | rfl
              · have hi : i = 0 := by simpa using hik
                subst hi
                have hs : cntI [x0, x1, x2, x3] [r0, r1, r2, r3] (0 + 1) = cntI [x0, x1, x2, x3] [r0, r1, r2, r3] 0 + (if x0 = r0 then 0 else 1) := by simp [cntI]
                clear hik
                generalize hcc : cntI [x0, x1, x2, x3] [r0, r1, r2, r3] 0 = cc at *
                have wc1 : IntKind.i64.wrap (((ct + cc : Nat) : Int) + 1) = ((ct + cc : Nat) : Int) + 1 := IntWalk.i64_in _ (by omega)
                by_cases hv : x0 = r0
                · have hvq : (x0 != r0) = false := by simp [hv]
                  rw [if_pos hv, Nat.add_zero] at hs
                  have HS := Kept.mk hs
                  clear hs hv hcc
                  go_upto_region 21 with (fail)
                  go_quiet (fail)
                  go_wp2_with fail
                  go_roundw
                  case rel => exact ⟨0 + 1, _, rfl, by go_num, by rw [HS.out]; rfl, by omega, HBQ.out.trans ⟨rfl, rfl, rfl, Nat.le_refl _, fun _ _ => rfl⟩⟩
                  case measure => simp [intOf]
                · have hvq : (x0 != r0) = true := by simp [hv]
                  rw [if_neg hv] at hs
                  have HS := Kept.mk hs
                  clear hs hv hcc
                  go_upto_region 21 with (fail)
                  go_quiet (fail)
                  go_wp2_with fail
                  go_roundw
                  case rel => exact ⟨0 + 1, _, rfl, by go_num, by rw [HS.out]; go_num, by omega, HBQ.out.trans ⟨rfl, rfl, rfl, Nat.le_refl _, fun _ _ => rfl⟩⟩
                  case measure => simp [intOf]
              · have hi : i = 1 := by simpa using hik
                subst hi
                have hs : cntI [x0, x1, x2, x3] [r0, r1, r2, r3] (1 + 1) = cntI [x0, x1, x2, x3] [r0, r1, r2, r3] 1 + (if x1 = r1 then 0 else 1) := by simp [cntI]
                clear hik
                generalize hcc : cntI [x0, x1, x2, x3] [r0, r1, r2, r3] 1 = cc at *
                have wc1 : IntKind.i64.wrap (((ct + cc : Nat) : Int) + 1) = ((ct + cc : Nat) : Int) + 1 := IntWalk.i64_in _ (by omega)
                by_cases hv : x1 = r1
                · have hvq : (x1 != r1) = false := by simp [hv]
                  rw [if_pos hv, Nat.add_zero] at hs
                  have HS := Kept.mk hs
                  clear hs hv hcc
                  go_upto_region 21 with (fail)
                  go_quiet (fail)
                  go_wp2_with fail
                  go_roundw
                  case rel => exact ⟨1 + 1, _, rfl, by go_num, by rw [HS.out]; rfl, by omega, HBQ.out.trans ⟨rfl, rfl, rfl, Nat.le_refl _, fun _ _ => rfl⟩⟩
                  case measure => simp [intOf]
                · have hvq : (x1 != r1) = true := by simp [hv]
                  rw [if_neg hv] at hs
                  have HS := Kept.mk hs
                  clear hs hv hcc
                  go_upto_region 21 with (fail)
                  go_quiet (fail)
                  go_wp2_with fail
                  go_roundw
                  case rel => exact ⟨1 + 1, _, rfl, by go_num, by rw [HS.out]; go_num, by omega, HBQ.out.trans ⟨rfl, rfl, rfl, Nat.le_refl _, fun _ _ => rfl⟩⟩
                  case measure => simp [intOf]
              · have hi : i = 2 := by simpa using hik
                subst hi
                have hs : cntI [x0, x1, x2, x3] [r0, r1, r2, r3] (2 + 1) = cntI [x0, x1, x2, x3] [r0, r1, r2, r3] 2 + (if x2 = r2 then 0 else 1) := by simp [cntI]
                clear hik
                generalize hcc : cntI [x0, x1, x2, x3] [r0, r1, r2, r3] 2 = cc at *
                have wc1 : IntKind.i64.wrap (((ct + cc : Nat) : Int) + 1) = ((ct + cc : Nat) : Int) + 1 := IntWalk.i64_in _ (by omega)
                by_cases hv : x2 = r2
                · have hvq : (x2 != r2) = false := by simp [hv]
                  rw [if_pos hv, Nat.add_zero] at hs
                  have HS := Kept.mk hs
                  clear hs hv hcc
                  go_upto_region 21 with (fail)
                  go_quiet (fail)
                  go_wp2_with fail
                  go_roundw
                  case rel => exact ⟨2 + 1, _, rfl, by go_num, by rw [HS.out]; rfl, by omega, HBQ.out.trans ⟨rfl, rfl, rfl, Nat.le_refl _, fun _ _ => rfl⟩⟩
                  case measure => simp [intOf]
                · have hvq : (x2 != r2) = true := by simp [hv]
                  rw [if_neg hv] at hs
                  have HS := Kept.mk hs
                  clear hs hv hcc
                  go_upto_region 21 with (fail)
                  go_quiet (fail)
                  go_wp2_with fail
                  go_roundw
                  case rel => exact ⟨2 + 1, _, rfl, by go_num, by rw [HS.out]; go_num, by omega, HBQ.out.trans ⟨rfl, rfl, rfl, Nat.le_refl _, fun _ _ => rfl⟩⟩
                  case measure => simp [intOf]
              · have hi : i = 3 := by simpa using hik
                subst hi
                have hs : cntI [x0, x1, x2, x3] [r0, r1, r2, r3] (3 + 1) = cntI [x0, x1, x2, x3] [r0, r1, r2, r3] 3 + (if x3 = r3 then 0 else 1) := by simp [cntI]
                clear hik
                generalize hcc : cntI [x0, x1, x2, x3] [r0, r1, r2, r3] 3 = cc at *
                have wc1 : IntKind.i64.wrap (((ct + cc : Nat) : Int) + 1) = ((ct + cc : Nat) : Int) + 1 := IntWalk.i64_in _ (by omega)
                by_cases hv : x3 = r3
                · have hvq : (x3 != r3) = false := by simp [hv]
                  rw [if_pos hv, Nat.add_zero] at hs
                  have HS := Kept.mk hs
                  clear hs hv hcc
                  go_upto_region 21 with (fail)
                  go_quiet (fail)
                  go_wp2_with fail
                  go_roundw
                  case rel => exact ⟨3 + 1, _, rfl, by go_num, by rw [HS.out]; rfl, by omega, HBQ.out.trans ⟨rfl, rfl, rfl, Nat.le_refl _, fun _ _ => rfl⟩⟩
                  case measure => simp [intOf]
                · have hvq : (x3 != r3) = true := by simp [hv]
                  rw [if_neg hv] at hs
                  have HS := Kept.mk hs
                  clear hs hv hcc
                  go_upto_region 21 with (fail)
                  go_quiet (fail)
                  go_wp2_with fail
                  go_roundw
                  case rel => exact ⟨3 + 1, _, rfl, by go_num, by rw [HS.out]; go_num, by omega, HBQ.out.trans ⟨rfl, rfl, rfl, Nat.le_refl _, fun _ _ => rfl⟩⟩
                  case measure => simp [intOf]
            · have hkk : k = 4 := by omega
              subst hkk
              have hi4 : i = 4 := by simpa using hik
              subst hi4
              clear hik
              have HC7 := Kept.mk HC6.out
              generalize cntI [x0, x1, x2, x3] [r0, r1, r2, r3] 4 = cr at *
              by_cases hst : ds = m.st.stack.length
              · have hsq : ((ds : Int) != (m.st.stack.length : Int)) = false := by simp [hst]
                have ht : ((ct + cr : Nat) : Int) ≤ 1 := by have h := HC7.out; rw [if_pos hst] at h; omega
                clear hcl2
                go_upto_region 25 with (fail)
                have hbq := HBQ.out
                have XDK : Kept (∀ w1, Below wr.heap.size wr w1 → CellsAt w1 S1 0 [.int .i64 x0, .int .i64 x1, .int .i64 x2, .int .i64 x3, .slice xmA m.st.mem.length xmC, .slice xsA ds xsC, .int .i64 cpc, .slice xbA (popEnts m.buf).length xbC, .slice xqA m.rsb.length xqC, .int .i64 0]) := ⟨fun w1 hb => CellsAt.of_block (heap_keep (heap_keep K1.out hbq) hb)⟩
                have XCK : Kept (∀ w1, Below wr.heap.size wr w1 → CellsAt w1 w9.heap.size 0 [.int .i64 r0, .int .i64 r1, .int .i64 r2, .int .i64 r3, .slice mA m.st.mem.length mC, .slice kA m.st.stack.length kC, .int .i64 cpc, .slice bA m.buf.length bC, .slice qA m.rsb.length qC, .int .i64 fin]) := ⟨fun w1 hb => CellsAt.of_block (heap_keep (heap_keep XC.out (HB.out.trans (hbq.mono HB.out.size))) hb)⟩
                refine old_reg25 wr w9.heap.size S1 m.buf (((ct + cr : Nat) : Int)) 0 x0 x1 x2 x3 r0 r1 r2 r3 cpc fin mA kA bA qA xmA xsA xbA xqA m.st.mem.length mC m.st.stack.length kC bC m.rsb.length qC m.st.mem.length xmC ds xsC xbC xqC XDK XCK ⟨HBF.out.past hbq⟩ ⟨HXB.out.past hbq⟩ ⟨HF.out.sm⟩ HF.out.bl ht _ ?_
                intros
                rename_i w15 b15
                have HBe := Kept.mk ((W10.out.trans ((HB.out.trans (hbq.mono HB.out.size)).mono W10.out.size)).trans (b15.mono (by have := (HB.out.trans (hbq.mono HB.out.size)).size; have := W10.out.size; omega)))
                clear Y1 Y9 XDK XCK
                go_wp2_with fail
                go_ret
                exact ⟨rfl, HBe.out⟩
              · have hsq : ((ds : Int) != (m.st.stack.length : Int)) = true := by simp; omega
                have ht : ((ct + cr : Nat) : Int) + 1 ≤ 1 := by have h := HC7.out; rw [if_neg hst] at h; omega
                have wt : IntKind.i64.wrap (((ct + cr : Nat) : Int) + 1) = ((ct + cr : Nat) : Int) + 1 := IntWalk.i64_in _ (by omega)
                clear hcl2
                go_upto_region 25 with (fail)
                have hbq := HBQ.out
                have XDK : Kept (∀ w1, Below wr.heap.size wr w1 → CellsAt w1 S1 0 [.int .i64 x0, .int .i64 x1, .int .i64 x2, .int .i64 x3, .slice xmA m.st.mem.length xmC, .slice xsA ds xsC, .int .i64 cpc, .slice xbA (popEnts m.buf).length xbC, .slice xqA m.rsb.length xqC, .int .i64 0]) := ⟨fun w1 hb => CellsAt.of_block (heap_keep (heap_keep K1.out hbq) hb)⟩
                have XCK : Kept (∀ w1, Below wr.heap.size wr w1 → CellsAt w1 w9.heap.size 0 [.int .i64 r0, .int .i64 r1, .int .i64 r2, .int .i64 r3, .slice mA m.st.mem.length mC, .slice kA m.st.stack.length kC, .int .i64 cpc, .slice bA m.buf.length bC, .slice qA m.rsb.length qC, .int .i64 fin]) := ⟨fun w1 hb => CellsAt.of_block (heap_keep (heap_keep XC.out (HB.out.trans (hbq.mono HB.out.size))) hb)⟩
                refine old_reg25 wr w9.heap.size S1 m.buf (((ct + cr : Nat) : Int) + 1) 0 x0 x1 x2 x3 r0 r1 r2 r3 cpc fin mA kA bA qA xmA xsA xbA xqA m.st.mem.length mC m.st.stack.length kC bC m.rsb.length qC m.st.mem.length xmC ds xsC xbC xqC XDK XCK ⟨HBF.out.past hbq⟩ ⟨HXB.out.past hbq⟩ ⟨HF.out.sm⟩ HF.out.bl ht _ ?_
                intros
                rename_i w15 b15
                have HBe := Kept.mk ((W10.out.trans ((HB.out.trans (hbq.mono HB.out.size)).mono W10.out.size)).trans (b15.mono (by have := (HB.out.trans (hbq.mono HB.out.size)).size; have := W10.out.size; omega)))
                clear Y1 Y9 XDK XCK
                go_wp2_with fail
                go_ret
                exact ⟨rfl, HBe.out⟩
    · rw [if_pos hF0] at hcx
      have hxf : xf = F := hcx.fin
      have e0 : x0 = r0 := (hcx.st.r0).trans hcf.st.r0.symm
      have e1 : x1 = r1 := (hcx.st.r1).trans hcf.st.r1.symm
      have e2 : x2 = r2 := (hcx.st.r2).trans hcf.st.r2.symm
      have e3 : x3 = r3 := (hcx.st.r3).trans hcf.st.r3.symm
      have hxpc : xpc = e.pc := hcx.st.pc
      have hxb : xbN = 0 := hcx.is.buf.n
      have hxq : xqN = 0 := hcx.is.rsb.n
      subst hxf e0 e1 e2 e3 hxpc hxb hxq
      have hrd : RdE w12 bA (e :: t) := by rw [← hbuf]; exact hcf.buf.r
      obtain ⟨eb, eo, rfl, hebs, q0, -⟩ := RdE.at_ hrd (i := 0) (by simp)
      have q0 : w12.cell? ⟨eb, eo, none⟩ = some (.int .i64 e.pc) := by simpa using q0
      have hFb : (xf != 0) = true := by simpa using hF0
      rw [hbn] at XC1
      have HBn := Kept.mk hbn
      have Y1 := fun j => cell_of_row w12 S1 j _ _ _ X1
      clear hrd hcx hre hbuf hfin0 hfd hq hcan hcf hxi hF
      go_upto_region 8 with (fail)
      have XDK : Kept (∀ w1, Below w12.heap.size w12 w1 → CellsAt w1 S1 0 [.int .i64 x0, .int .i64 x1, .int .i64 x2, .int .i64 x3, .slice xmA xmN xmC, .slice xsA xsN xsC, .int .i64 e.pc, .slice xbA 0 xbC, .slice xqA 0 xqC, .int .i64 xf]) := ⟨fun w1 hb => CellsAt.of_block (heap_keep X1 hb)⟩
      have XCK : Kept (∀ w1, Below w12.heap.size w12 w1 → CellsAt w1 w9.heap.size 0 [.int .i64 x0, .int .i64 x1, .int .i64 x2, .int .i64 x3, .slice mA m.st.mem.length mC, .slice kA m.st.stack.length kC, .int .i64 cpc, .slice (some ⟨eb, eo, none⟩) (t.length + 1) bC, .slice qA m.rsb.length qC, .int .i64 fin]) := ⟨fun w1 hb => CellsAt.of_block (heap_keep XC1 hb)⟩
      have XEK : Kept (∀ w1, Below w12.heap.size w12 w1 → CellsAt w1 eb eo [.int .i64 e.pc]) := ⟨fun w1 hb => CellsAt.one ((hb.cell (p := ⟨eb, eo, none⟩) hebs).trans q0)⟩
      refine old_reg8 w12 w9.heap.size S1 eb eo t.length x0 x1 x2 x3 cpc fin e.pc xf mA kA qA xmA xsA xbA xqA m.st.mem.length mC m.st.stack.length kC bC m.rsb.length qC xmN xmC xsN xsC xbC xqC XDK XCK XEK _ ?_
      intros
      rename_i w15 b15
      have HBe := Kept.mk ((W10.out.trans (HB.out.mono W10.out.size)).trans (b15.mono (by have := HB.out.size; have := W10.out.size; omega)))
      clear Y1 XDK XCK XEK
      go_wp2_with fail
      go_ret
      exact ⟨rfl, HBe.out⟩
theorem rtold_law (A2 : Option Addr) (c2 : Nat) (mk : List Int) (A3 : Option Addr) (c3 : Nat) (l : List Int) (A4 : Option Addr) (c4 : Nat) (wk : List Int) (w : World) (_hc2 : mk.length ≤ c2) (_hm2 : c2 ≤ maxLen) (hr2 : RdI w A2 mk) (_ok2 : ∀ x ∈ mk, -9223372036854775808 ≤ x ∧ x ≤ 9223372036854775807) (_hc3 : l.length ≤ c3) (_hm3 : c3 ≤ maxLen) (hr3 : RdI w A3 l) (_ok3 : ∀ x ∈ l, -9223372036854775808 ≤ x ∧ x ≤ 9223372036854775807) (_hc4 : wk.length ≤ c4) (_hm4 : c4 ≤ maxLen) (hr4 : RdI w A4 wk) (_ok4 : ∀ x ∈ wk, -9223372036854775808 ≤ x ∧ x ≤ 9223372036854775807) :
    Calls Try.prog 5 #[.slice A2 mk.length c2, .slice A3 l.length c3, .slice A4 wk.length c4] w (SaysTrue w) := rtold_walk A2 c2 mk A3 c3 l A4 c4 wk w hr2 hr3 hr4
end Go.Proofs.Ytchldbkjapnlcaa
