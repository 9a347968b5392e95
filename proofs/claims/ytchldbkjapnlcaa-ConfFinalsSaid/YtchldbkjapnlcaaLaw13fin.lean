/- The law ConfFinals: a machine that was begun is not final; once it is, nothing is under way any more. -/
import Derived.Test.YtchldbkjapnlcaaJAwa13
import Derived.Test.YtchldbkjapnlcaaJChain
import Derived.Test.YtchldbkjapnlcaaJl
import Derived.Deep.DeepCutAuto
import Derived.BigQuiet
set_option linter.unusedVariables false
set_option linter.unusedSimpArgs false
namespace Go.Proofs.Ytchldbkjapnlcaa
open Go.RowKit

def Inv13 (win : Int) (il : List Inst) (L k : Nat) (m : Conf) : Prop := Inv win il L k m ∧ Chain il m
theorem keeps13 {W win : Int} {il : List Inst} {L : Nat} (hP : ProgOk W win il) (hL : L ≤ 1000) : Keeps W win il (Inv13 win il L) := ⟨fun _ _ hk h => inv_fit hP h.1 (by omega) hL, fun _ _ d h hd => ⟨inv_step hP h.1 d hd, chain_step hP h.1 h.2 d hd⟩⟩
set_option maxRecDepth 100000 in
set_option maxHeartbeats 3000000 in
theorem cfin_walk (A2 : Option Addr) (c2 : Nat) (mk : List Int) (A3 : Option Addr) (c3 : Nat) (l : List Int) (A4 : Option Addr) (c4 : Nat) (wk : List Int) (w : World) (hr2 : RdI w A2 mk) (hr3 : RdI w A3 l) (hr4 : RdI w A4 wk) :
    Calls Try.prog 14 #[.slice A2 mk.length c2, .slice A3 l.length c3, .slice A4 wk.length c4] w (SaysTrue w) := by
  have HAW := Kept.mk awake13
  have HR2 := Kept.mk hr2
  have HR3 := Kept.mk hr3
  have HR4 := Kept.mk hr4
  clear hr2 hr3 hr4
  go_enter Try.func14, Try.ntmps14
  go_wp2_with fail
  refine (make_at A2 mk mk.length c2 w rfl HR2.out).mono ?_
  rintro en w6 ⟨p, il, ml, rfl, hmk, b6⟩
  have W6 := Kept.mk b6
  obtain ⟨pmA, pmC, hpm, -, -⟩ := hmk.mem
  obtain ⟨plA, plN, plC, hpl⟩ := hmk.lab
  obtain ⟨pW, pwin, pfuel, pr0, pr1, pr2, pr3, pmems, plabels, pA, pN, pC⟩ := p
  simp only at hpm hpl
  subst hpm hpl
  have HMK := Kept.mk hmk
  clear hmk b6
  obtain ⟨HPM, hPM⟩ : ∃ x : Kept (ProgOk pW pwin il), x = x := ⟨⟨make_prog HMK.out⟩, rfl⟩
  clear hPM
  go_wp2_with fail
  have ba := below_alloc_self w6 (.cells (Prg.cs (⟨pW, pwin, pfuel, pr0, pr1, pr2, pr3, .slice pmA ml.length pmC, .slice plA plN plC, pA, pN, pC⟩ : Prg)).toArray 33)
  refine (states_mach (⟨pW, pwin, pfuel, pr0, pr1, pr2, pr3, .slice pmA ml.length pmC, .slice plA plN plC, pA, pN, pC⟩ : Prg) il ml A3 l l.length c3 (w6.alloc (.cells (Prg.cs (⟨pW, pwin, pfuel, pr0, pr1, pr2, pr3, .slice pmA ml.length pmC, .slice plA plN plC, pA, pN, pC⟩ : Prg)).toArray 33)) rfl (HMK.out.past ba) (HR3.out.past (W6.out.trans (ba.mono W6.out.size)))).mono ?_
  rintro en w7 ⟨s, t, ms, mt, rfl, hs, ht, b7⟩
  have XP := Kept.mk (heap_keep (heap_alloc_new w6 (.cells (Prg.cs (⟨pW, pwin, pfuel, pr0, pr1, pr2, pr3, .slice pmA ml.length pmC, .slice plA plN plC, pA, pN, pC⟩ : Prg)).toArray 33)) b7)
  have W7 := Kept.mk ((W6.out.trans (ba.mono W6.out.size)).trans (b7.mono (by have := W6.out.size; simp; omega)))
  have HMK := Kept.mk ((HMK.out.past ba).past b7)
  have HS := Kept.mk hs
  have HT := Kept.mk ht
  clear hs ht b7 ba
  obtain ⟨s0, s1, s2, s3, ⟨sA, sN, sC⟩, ⟨uA, uN, uC⟩, s6⟩ := s
  obtain ⟨t0, t1, t2, t3, ⟨tA, tN, tC⟩, ⟨vA, vN, vC⟩, t6⟩ := t
  go_upto_region 3 with (fail)
  have bb := (below_alloc_self w7 (.cells #[.int .i64 s0, .int .i64 s1, .int .i64 s2, .int .i64 s3, .slice sA sN sC, .slice uA uN uC, .int .i64 s6] 36)).alloc (by simp) (.cells #[.int .i64 t0, .int .i64 t1, .int .i64 t2, .int .i64 t3, .slice tA tN tC, .slice vA vN vC, .int .i64 t6] 36)
  have XS := Kept.mk ((heap_alloc_old _ _ (by simp)).trans (heap_alloc_new w7 (.cells #[.int .i64 s0, .int .i64 s1, .int .i64 s2, .int .i64 s3, .slice sA sN sC, .slice uA uN uC, .int .i64 s6] 36)) : ((w7.alloc (.cells #[.int .i64 s0, .int .i64 s1, .int .i64 s2, .int .i64 s3, .slice sA sN sC, .slice uA uN uC, .int .i64 s6] 36)).alloc (.cells #[.int .i64 t0, .int .i64 t1, .int .i64 t2, .int .i64 t3, .slice tA tN tC, .slice vA vN vC, .int .i64 t6] 36)).heap[w7.heap.size]? = some (.cells #[.int .i64 s0, .int .i64 s1, .int .i64 s2, .int .i64 s3, .slice sA sN sC, .slice uA uN uC, .int .i64 s6] 36))
  have XT := Kept.mk (heap_alloc2_new w7 (.cells #[.int .i64 s0, .int .i64 s1, .int .i64 s2, .int .i64 s3, .slice sA sN sC, .slice uA uN uC, .int .i64 s6] 36) (.cells #[.int .i64 t0, .int .i64 t1, .int .i64 t2, .int .i64 t3, .slice tA tN tC, .slice vA vN vC, .int .i64 t6] 36))
  have XP := Kept.mk (heap_keep XP.out bb)
  have W8 := Kept.mk (W7.out.trans (bb.mono W7.out.size))
  have HMK := Kept.mk (HMK.out.past bb)
  have HS := Kept.mk (HS.out.past bb)
  have HT := Kept.mk (HT.out.past bb)
  clear bb
  generalize (w7.alloc (.cells #[.int .i64 s0, .int .i64 s1, .int .i64 s2, .int .i64 s3, .slice sA sN sC, .slice uA uN uC, .int .i64 s6] 36)).alloc (.cells #[.int .i64 t0, .int .i64 t1, .int .i64 t2, .int .i64 t3, .slice tA tN tC, .slice vA vN vC, .int .i64 t6] 36) = w8 at *
  have Y6 := fun j => cell_of_row w8 w6.heap.size j _ _ _ XP.out
  have Y7 := fun j => cell_of_row w8 w7.heap.size j _ _ _ XS.out
  simp only [Prg.cs] at Y6
  go_wp2_with fail
  refine (cbegin_any ⟨s0, s1, s2, s3, ⟨sA, sN, sC⟩, ⟨uA, uN, uC⟩, s6⟩ ms w8 HS.out.st HS.out.ok.ml (by rw [HS.out.ok.stack]; decide)).mono ?_
  rintro en wb ⟨cb, rfl, hcb, bb⟩
  have hpc := hcb.pc.trans HS.out.ok.pc
  obtain ⟨e0, e1, e2, e3, ⟨emA, emN, emC⟩, ⟨esA, esN, esC⟩, epc⟩ := cb
  simp only at hpc
  subst hpc
  go_upto_region 4 with (fail)
  have bX := bb.trans ((below_alloc_self wb (.cells #[.int .i64 e0, .int .i64 e1, .int .i64 e2, .int .i64 e3, .slice emA emN emC, .slice esA esN esC, .int .i64 0, .slice none 0 0, .slice none 0 0, .int .i64 0] 41)).mono bb.size)
  have XE := heap_alloc_new wb (.cells #[.int .i64 e0, .int .i64 e1, .int .i64 e2, .int .i64 e3, .slice emA emN emC, .slice esA esN esC, .int .i64 0, .slice none 0 0, .slice none 0 0, .int .i64 0] 41)
  have XP := Kept.mk (heap_keep XP.out bX)
  have XS := Kept.mk (heap_keep XS.out bX)
  have W8 := Kept.mk (W8.out.trans (bX.mono W8.out.size))
  have HMK := Kept.mk (HMK.out.past bX)
  have HS := Kept.mk (HS.out.past bX)
  clear bX bb hcb Y6 Y7
  generalize wb.alloc (.cells #[.int .i64 e0, .int .i64 e1, .int .i64 e2, .int .i64 e3, .slice emA emN emC, .slice esA esN esC, .int .i64 0, .slice none 0 0, .slice none 0 0, .int .i64 0] 41) = w8' at *
  have YE := fun j => cell_of_row w8' wb.heap.size j _ _ _ XE
  go_wp2_with fail
  refine (final_any ⟨⟨e0, e1, e2, e3, ⟨emA, emN, emC⟩, ⟨esA, esN, esC⟩, 0⟩, ⟨none, 0, 0⟩, ⟨none, 0, 0⟩, 0⟩ w8').mono ?_
  rintro en w8q ⟨rfl, bX⟩
  have XE := heap_keep XE bX
  have XP := Kept.mk (heap_keep XP.out bX)
  have XS := Kept.mk (heap_keep XS.out bX)
  have W8 := Kept.mk (W8.out.trans (bX.mono W8.out.size))
  have HMK := Kept.mk (HMK.out.past bX)
  have HS := Kept.mk (HS.out.past bX)
  clear bX YE
  have YE := fun j => cell_of_row w8q wb.heap.size j _ _ _ XE
  have Y6 := fun j => cell_of_row w8q w6.heap.size j _ _ _ XP.out
  have Y7 := fun j => cell_of_row w8q w7.heap.size j _ _ _ XS.out
  simp only [Prg.cs] at Y6
  have hd0 : decide (¬ (0 : Int) = 0) = false := by decide
  go_wp2_with fail
  refine (walk_mach (⟨pW, pwin, pfuel, pr0, pr1, pr2, pr3, .slice pmA ml.length pmC, .slice plA plN plC, pA, pN, pC⟩ : Prg) il ml ⟨s0, s1, s2, s3, ⟨sA, sN, sC⟩, ⟨uA, uN, uC⟩, s6⟩ ms A4 wk wk.length c4 w8q rfl HMK.out HS.out (HR4.out.past W8.out)).mono ?_
  rintro en w9 ⟨c, m, dv, out, k, rfl, hm, hd, hwo, b9⟩
  obtain ⟨dA, dC, rfl, -, -⟩ := hd.shape
  have W9 := Kept.mk (W8.out.trans (b9.mono W8.out.size))
  have XP := Kept.mk (heap_keep XP.out b9)
  have HM := Kept.mk hm
  have HD := Kept.mk hd
  have HWO := Kept.mk hwo
  have HS13 := Kept.mk HS.out.ok
  clear hd hwo b9 hm YE XE Y6 Y7 HS HMK XS HT XT
  obtain ⟨⟨r0, r1, r2, r3, ⟨mA, mN, mC⟩, ⟨kA, kN, kC⟩, cpc⟩, ⟨bA, bN, bC⟩, ⟨qA, qN, qC⟩, fin⟩ := c
  have hbn : bN = m.buf.length := HM.out.cf.buf.n
  have hkn : kN = m.st.stack.length := HM.out.cf.st.stack.n
  have hmn : mN = m.st.mem.length := HM.out.cf.st.mem.n
  have hqn : qN = m.rsb.length := HM.out.cf.rsb.n
  subst hbn hkn hmn hqn
  have HF := Kept.mk (inv_fit HM.out.ok HM.out.inv (Nat.le_trans HM.out.kl (by decide)) HM.out.ll)
  go_upto_region 7 with (fail)
  have bc := below_alloc_self w9 (.cells #[.int .i64 r0, .int .i64 r1, .int .i64 r2, .int .i64 r3, .slice mA m.st.mem.length mC, .slice kA m.st.stack.length kC, .int .i64 cpc, .slice bA m.buf.length bC, .slice qA m.rsb.length qC, .int .i64 fin] 41)
  have XC := Kept.mk (heap_alloc_new w9 (.cells #[.int .i64 r0, .int .i64 r1, .int .i64 r2, .int .i64 r3, .slice mA m.st.mem.length mC, .slice kA m.st.stack.length kC, .int .i64 cpc, .slice bA m.buf.length bC, .slice qA m.rsb.length qC, .int .i64 fin] 41))
  have XP := Kept.mk (heap_keep XP.out bc)
  have W10 := Kept.mk (W9.out.trans (bc.mono W9.out.size))
  have HM := Kept.mk (HM.out.past bc)
  have HD := Kept.mk (HD.out.past bc)
  clear bc
  generalize w9.alloc (.cells #[.int .i64 r0, .int .i64 r1, .int .i64 r2, .int .i64 r3, .slice mA m.st.mem.length mC, .slice kA m.st.stack.length kC, .int .i64 cpc, .slice bA m.buf.length bC, .slice qA m.rsb.length qC, .int .i64 fin] 41) = w10 at *
  have HK := Kept.mk (keeps13 (L := ms.mem.length) HM.out.ok HM.out.ll)
  have H0 : Inv13 pwin il ms.mem.length 0 ⟨ms, [], [], 0⟩ := ⟨inv_start HM.out.ok.win.1 HS13.out, Chain.begin il ms (by rw [HS13.out.pc]; decide)⟩
  obtain ⟨k', hk', hik⟩ := walk_keeps HK.out (wk.take 60) 0 _ H0
  rw [← HWO.out] at hik
  have HCH := Kept.mk hik.2
  have HIK := Kept.mk hik.1
  have hlast := walk_last HK.out (fun k m h hf => allOf_empty h.1 hf) (wk.take 60) 0 _ H0 rfl
  rw [← HWO.out] at hlast
  have HLAST := Kept.mk hlast
  clear hk' hik hlast H0
  have HALL0 := Kept.mk (fun w1 (hb : Below w10.heap.size w10 w1) => all_ref (⟨pW, pwin, pfuel, pr0, pr1, pr2, pr3, .slice pmA ml.length pmC, .slice plA plN plC, pA, pN, pC⟩ : Prg) il (⟨⟨r0, r1, r2, r3, ⟨mA, m.st.mem.length, mC⟩, ⟨kA, m.st.stack.length, kC⟩, cpc⟩, ⟨bA, m.buf.length, bC⟩, ⟨qA, m.rsb.length, qC⟩, fin⟩ : Cnf) m w1 (HM.out.past hb).pi HM.out.ok.W (HM.out.past hb).cf HF.out.bl HF.out.ml HF.out.rl)
  have hfin : fin = m.fin := HM.out.cf.fin
  by_cases h0 : m.fin = 0
  · have hne := allOf_some HM.out.ok HIK.out HCH.out h0
    have hf0 : fin = 0 := by omega
    have HFIN : Kept (∀ w1, Calls Try.prog 51 #[Cnf.v (⟨⟨r0, r1, r2, r3, ⟨mA, m.st.mem.length, mC⟩, ⟨kA, m.st.stack.length, kC⟩, cpc⟩, ⟨bA, m.buf.length, bC⟩, ⟨qA, m.rsb.length, qC⟩, fin⟩ : Cnf)] w1 fun en w' => en = .returned (.bool false) ∧ Below w1.heap.size w1 w') := ⟨fun w1 => by have h := final_any (⟨⟨r0, r1, r2, r3, ⟨mA, m.st.mem.length, mC⟩, ⟨kA, m.st.stack.length, kC⟩, cpc⟩, ⟨bA, m.buf.length, bC⟩, ⟨qA, m.rsb.length, qC⟩, fin⟩ : Cnf) w1; rwa [decide_eq_false (show ¬ (Cnf.fin (⟨⟨r0, r1, r2, r3, ⟨mA, m.st.mem.length, mC⟩, ⟨kA, m.st.stack.length, kC⟩, cpc⟩, ⟨bA, m.buf.length, bC⟩, ⟨qA, m.rsb.length, qC⟩, fin⟩ : Cnf) ≠ 0) from fun h => h hf0)] at h⟩
    generalize hNA : (allOf pW pwin il m).length = NA at hne
    have hN : ((NA : Int) == 0) = false := by simpa using hne
    have hx57 : (false != false) = false := rfl
    have HALL : Kept (∀ w1, Below w10.heap.size w10 w1 → Calls Try.prog 37 #[Prg.v (⟨pW, pwin, pfuel, pr0, pr1, pr2, pr3, .slice pmA ml.length pmC, .slice plA plN plC, pA, pN, pC⟩ : Prg), Cnf.v (⟨⟨r0, r1, r2, r3, ⟨mA, m.st.mem.length, mC⟩, ⟨kA, m.st.stack.length, kC⟩, cpc⟩, ⟨bA, m.buf.length, bC⟩, ⟨qA, m.rsb.length, qC⟩, fin⟩ : Cnf)] w1 fun en w' => ∃ v, en = .returned v ∧ (∃ l : List Dir, l.length = NA ∧ OwnD w' w1.heap.size v l) ∧ Below w1.heap.size w1 w') := ⟨fun w1 hb => (HALL0.out w1 hb).mono fun en w' h => by obtain ⟨v, e, h1, h2⟩ := h; exact ⟨v, e, ⟨_, hNA, h1⟩, h2⟩⟩
    have XKP : Kept (∀ w1, Below w10.heap.size w10 w1 → CellsAt w1 w6.heap.size 0 [.int .i64 (pW), .int .i64 (pwin), .int .i64 (pfuel), .int .i64 (pr0), .int .i64 (pr1), .int .i64 (pr2), .int .i64 (pr3), .slice pmA ml.length pmC, .slice plA plN plC, .slice pA pN pC]) := ⟨fun w1 hb => CellsAt.of_block (heap_keep XP.out hb)⟩
    have XKC : Kept (∀ w1, Below w10.heap.size w10 w1 → CellsAt w1 w9.heap.size 0 [.int .i64 (r0), .int .i64 (r1), .int .i64 (r2), .int .i64 (r3), .slice mA m.st.mem.length mC, .slice kA m.st.stack.length kC, .int .i64 (cpc), .slice bA m.buf.length bC, .slice qA m.rsb.length qC, .int .i64 (fin)]) := ⟨fun w1 hb => CellsAt.of_block (heap_keep XC.out hb)⟩
    clear hNA hne HALL0
    refine region_tell (w10.heap.size) (G := fun _ => True) (ts := [
        .is (Value.agg #[.int .i64 (r0), .int .i64 (r1), .int .i64 (r2), .int .i64 (r3), .slice mA m.st.mem.length mC, .slice kA m.st.stack.length kC, .int .i64 (cpc), .slice bA m.buf.length bC, .slice qA m.rsb.length qC, .int .i64 (fin)]),
        .draws (.bool false),
        .is (Value.agg #[.int .i64 (pW), .int .i64 (pwin), .int .i64 (pfuel), .int .i64 (pr0), .int .i64 (pr1), .int .i64 (pr2), .int .i64 (pr3), .slice pmA ml.length pmC, .slice plA plN plC, .slice pA pN pC]),
        .is (Value.agg #[.int .i64 (r0), .int .i64 (r1), .int .i64 (r2), .int .i64 (r3), .slice mA m.st.mem.length mC, .slice kA m.st.stack.length kC, .int .i64 (cpc), .slice bA m.buf.length bC, .slice qA m.rsb.length qC, .int .i64 (fin)]),
        .makes (fun v _ => ∃ (A : Option Addr) (c : Nat), v = .slice A NA c),
        .is (.int .i64 (NA : Int)),
        .is (Value.bool false),
        .is (Value.bool false),
        .is (Value.bool false),
        .is (Value.agg #[.int .i64 (r0), .int .i64 (r1), .int .i64 (r2), .int .i64 (r3), .slice mA m.st.mem.length mC, .slice kA m.st.stack.length kC, .int .i64 (cpc), .slice bA m.buf.length bC, .slice qA m.rsb.length qC, .int .i64 (fin)]),
        .draws (.bool false),
        .is (Value.bool false),
        .is undef,
        .is undef,
        .is undef,
        .is undef,
        .is undef,
        .is undef,
        .is undef,
        .is undef,
        .is undef,
        .is undef,
        .is undef,
        .is undef,
        .is undef,
        .is undef,
        .is undef,
        .is undef,
        .is undef,
        .is undef,
        .is undef,
        .is undef,
        .is undef,
        .is undef,
        .is undef,
        .is undef,
        .is undef,
        .is (Value.bool false),
        .is (Value.bool false)])
      (fin := []) (cs := []) (by kernel_rfl) rfl (by kernel_rfl) (by kernel_rfl)
      ⟨trivial, trivial, trivial, trivial, grows_pure _, trivial, trivial, trivial, trivial, trivial, trivial, trivial, trivial, trivial, trivial, trivial, trivial, trivial, trivial, trivial, trivial, trivial, trivial, trivial, trivial, trivial, trivial, trivial, trivial, trivial, trivial, trivial, trivial, trivial, trivial, trivial, trivial, trivial, trivial, trivial⟩ (fun _ _ _ _ => trivial) (by simp) (by simp) trivial
      ⟨?_, ?_, ?_, ?_, ?_, ?_, ?_, ?_, ?_, ?_, ?_, ?_, ?_, ?_, ?_, ?_, ?_, ?_, ?_, ?_, ?_, ?_, ?_, ?_, ?_, ?_, ?_, ?_, ?_, ?_, ?_, ?_, ?_, ?_, ?_, ?_, ?_, ?_, ?_, trivial⟩ ?_
    · intro vals w1 hB _ hd
      clear hd
      refine one_value (v := Value.agg #[.int .i64 (r0), .int .i64 (r1), .int .i64 (r2), .int .i64 (r3), .slice mA m.st.mem.length mC, .slice kA m.st.stack.length kC, .int .i64 (cpc), .slice bA m.buf.length bC, .slice qA m.rsb.length qC, .int .i64 (fin)]) rfl ?_ (post_is rfl)
      exact exec_load_row rfl (b := w9.heap.size) (off := 0) (by kernel_rfl) [.int .i64 (r0), .int .i64 (r1), .int .i64 (r2), .int .i64 (r3), .slice mA m.st.mem.length mC, .slice kA m.st.stack.length kC, .int .i64 (cpc), .slice bA m.buf.length bC, .slice qA m.rsb.length qC, .int .i64 (fin)] (XKC.out w1 hB) Try.underlying41 rfl (by kernel_rfl)
    · intro vals w1 hB _ hd
      clear hd
      refine one_calls (f := 51) (args := #[.agg #[.int .i64 (r0), .int .i64 (r1), .int .i64 (r2), .int .i64 (r3), .slice mA m.st.mem.length mC, .slice kA m.st.stack.length kC, .int .i64 (cpc), .slice bA m.buf.length bC, .slice qA m.rsb.length qC, .int .i64 (fin)]]) (w1 := w1) rfl (by kernel_rfl) ?_
      refine (HFIN.out w1).mono ?_
      rintro e1 w3 ⟨rfl, hb⟩
      exact ⟨_, rfl, post_draws rfl hb⟩
    · intro vals w1 hB _ hd
      clear hd
      refine one_value (v := Value.agg #[.int .i64 (pW), .int .i64 (pwin), .int .i64 (pfuel), .int .i64 (pr0), .int .i64 (pr1), .int .i64 (pr2), .int .i64 (pr3), .slice pmA ml.length pmC, .slice plA plN plC, .slice pA pN pC]) rfl ?_ (post_is rfl)
      exact exec_load_row rfl (b := w6.heap.size) (off := 0) (by kernel_rfl) [.int .i64 (pW), .int .i64 (pwin), .int .i64 (pfuel), .int .i64 (pr0), .int .i64 (pr1), .int .i64 (pr2), .int .i64 (pr3), .slice pmA ml.length pmC, .slice plA plN plC, .slice pA pN pC] (XKP.out w1 hB) Try.underlying33 rfl (by kernel_rfl)
    · intro vals w1 hB _ hd
      clear hd
      refine one_value (v := Value.agg #[.int .i64 (r0), .int .i64 (r1), .int .i64 (r2), .int .i64 (r3), .slice mA m.st.mem.length mC, .slice kA m.st.stack.length kC, .int .i64 (cpc), .slice bA m.buf.length bC, .slice qA m.rsb.length qC, .int .i64 (fin)]) rfl ?_ (post_is rfl)
      exact exec_load_row rfl (b := w9.heap.size) (off := 0) (by kernel_rfl) [.int .i64 (r0), .int .i64 (r1), .int .i64 (r2), .int .i64 (r3), .slice mA m.st.mem.length mC, .slice kA m.st.stack.length kC, .int .i64 (cpc), .slice bA m.buf.length bC, .slice qA m.rsb.length qC, .int .i64 (fin)] (XKC.out w1 hB) Try.underlying41 rfl (by kernel_rfl)
    · intro vals w1 hB _ hd
      clear hd
      refine one_calls (f := 37) (args := #[.agg #[.int .i64 (pW), .int .i64 (pwin), .int .i64 (pfuel), .int .i64 (pr0), .int .i64 (pr1), .int .i64 (pr2), .int .i64 (pr3), .slice pmA ml.length pmC, .slice plA plN plC, .slice pA pN pC], .agg #[.int .i64 (r0), .int .i64 (r1), .int .i64 (r2), .int .i64 (r3), .slice mA m.st.mem.length mC, .slice kA m.st.stack.length kC, .int .i64 (cpc), .slice bA m.buf.length bC, .slice qA m.rsb.length qC, .int .i64 (fin)]]) (w1 := w1) rfl (by kernel_rfl) ?_
      refine (HALL.out w1 hB).mono ?_
      rintro e1 w3 ⟨v3, rfl, ⟨l3, hl3, ho⟩, hb⟩
      obtain ⟨A3, c3, rfl, -, -⟩ := ho.shape
      exact ⟨_, rfl, post_makes rfl ⟨A3, c3, by rw [hl3]⟩ hb⟩
    · intro vals w1 hB _ hd
      obtain ⟨A3, c3, e3⟩ : ∃ (A : Option Addr) (c : Nat), vals 4 = .slice A NA c := hd 4 (by kernel_rfl)
      clear hd
      refine one_value (v := .int .i64 (NA : Int)) rfl ?_ (post_is rfl)
      rw [vals_at e3]
      kernel_rfl
    · intro vals w1 hB _ hd
      clear hd
      refine one_value (v := Value.bool false) rfl ?_ (post_is rfl)
      exact Eq.trans (b := .ok (.value (.bool (((NA : Int)) == (0)))) w1) (by kernel_rfl) (by rw [hN])
    · intro vals w1 hB _ hd
      clear hd
      refine one_value (v := Value.bool false) rfl ?_ (post_is rfl)
      exact Eq.trans (b := .ok (.value (.bool ((false) != (false)))) w1) (by kernel_rfl) (by rw [hx57])
    · intro vals w1 hB _ hd
      clear hd
      refine one_value (v := Value.bool false) rfl ?_ (post_is rfl)
      kernel_rfl
    · intro vals w1 hB _ hd
      clear hd
      refine one_value_g (v := Value.agg #[.int .i64 (r0), .int .i64 (r1), .int .i64 (r2), .int .i64 (r3), .slice mA m.st.mem.length mC, .slice kA m.st.stack.length kC, .int .i64 (cpc), .slice bA m.buf.length bC, .slice qA m.rsb.length qC, .int .i64 (fin)]) (by kernel_rfl) ?_ (post_is rfl)
      exact exec_load_row rfl (b := w9.heap.size) (off := 0) (by kernel_rfl) [.int .i64 (r0), .int .i64 (r1), .int .i64 (r2), .int .i64 (r3), .slice mA m.st.mem.length mC, .slice kA m.st.stack.length kC, .int .i64 (cpc), .slice bA m.buf.length bC, .slice qA m.rsb.length qC, .int .i64 (fin)] (XKC.out w1 hB) Try.underlying41 rfl (by kernel_rfl)
    · intro vals w1 hB _ hd
      clear hd
      refine one_calls_g (f := 51) (args := #[.agg #[.int .i64 (r0), .int .i64 (r1), .int .i64 (r2), .int .i64 (r3), .slice mA m.st.mem.length mC, .slice kA m.st.stack.length kC, .int .i64 (cpc), .slice bA m.buf.length bC, .slice qA m.rsb.length qC, .int .i64 (fin)]]) (w1 := w1) (by kernel_rfl) (by kernel_rfl) ?_
      refine (HFIN.out w1).mono ?_
      rintro e1 w3 ⟨rfl, hb⟩
      exact ⟨_, rfl, post_draws rfl hb⟩
    · intro vals w1 hB _ hd
      clear hd
      refine one_value_g (v := Value.bool false) (by kernel_rfl) ?_ (post_is rfl)
      kernel_rfl
    · intro vals w1 hB _ hd
      clear hd
      exact one_not (by kernel_rfl) (post_is rfl)
    · intro vals w1 hB _ hd
      clear hd
      exact one_not (by kernel_rfl) (post_is rfl)
    · intro vals w1 hB _ hd
      clear hd
      exact one_not (by kernel_rfl) (post_is rfl)
    · intro vals w1 hB _ hd
      clear hd
      exact one_not (by kernel_rfl) (post_is rfl)
    · intro vals w1 hB _ hd
      clear hd
      exact one_not (by kernel_rfl) (post_is rfl)
    · intro vals w1 hB _ hd
      clear hd
      exact one_not (by kernel_rfl) (post_is rfl)
    · intro vals w1 hB _ hd
      clear hd
      exact one_not (by kernel_rfl) (post_is rfl)
    · intro vals w1 hB _ hd
      clear hd
      exact one_not (by kernel_rfl) (post_is rfl)
    · intro vals w1 hB _ hd
      clear hd
      exact one_not (by kernel_rfl) (post_is rfl)
    · intro vals w1 hB _ hd
      clear hd
      exact one_not (by kernel_rfl) (post_is rfl)
    · intro vals w1 hB _ hd
      clear hd
      exact one_not (by kernel_rfl) (post_is rfl)
    · intro vals w1 hB _ hd
      clear hd
      exact one_not (by kernel_rfl) (post_is rfl)
    · intro vals w1 hB _ hd
      clear hd
      exact one_not (by kernel_rfl) (post_is rfl)
    · intro vals w1 hB _ hd
      clear hd
      exact one_not (by kernel_rfl) (post_is rfl)
    · intro vals w1 hB _ hd
      clear hd
      exact one_not (by kernel_rfl) (post_is rfl)
    · intro vals w1 hB _ hd
      clear hd
      exact one_not (by kernel_rfl) (post_is rfl)
    · intro vals w1 hB _ hd
      clear hd
      exact one_not (by kernel_rfl) (post_is rfl)
    · intro vals w1 hB _ hd
      clear hd
      exact one_not (by kernel_rfl) (post_is rfl)
    · intro vals w1 hB _ hd
      clear hd
      exact one_not (by kernel_rfl) (post_is rfl)
    · intro vals w1 hB _ hd
      clear hd
      exact one_not (by kernel_rfl) (post_is rfl)
    · intro vals w1 hB _ hd
      clear hd
      exact one_not (by kernel_rfl) (post_is rfl)
    · intro vals w1 hB _ hd
      clear hd
      exact one_not (by kernel_rfl) (post_is rfl)
    · intro vals w1 hB _ hd
      clear hd
      exact one_not (by kernel_rfl) (post_is rfl)
    · intro vals w1 hB _ hd
      clear hd
      exact one_not (by kernel_rfl) (post_is rfl)
    · intro vals w1 hB _ hd
      clear hd
      exact one_not (by kernel_rfl) (post_is rfl)
    · intro vals w1 hB _ hd
      clear hd
      refine one_value_g (v := Value.bool false) (by kernel_rfl) ?_ (post_is rfl)
      kernel_rfl
    · intro vals w1 hB _ hd
      clear hd
      refine one_value (v := Value.bool false) rfl ?_ (post_is rfl)
      kernel_rfl
    intro vals w15 b15 _ hr
    clear hr
    simp only [fillT, Tell.is, Tell.draws, Tell.makes, Act.put, List.setIfInBounds_toArray, List.set_cons_zero, List.set_cons_succ]
    have W15 := Kept.mk (W10.out.trans (b15.mono W10.out.size))
    go_wp2_with fail
    refine (HAW.out w15).mono ?_
    rintro en wz ⟨rfl, bz⟩
    have WX := Kept.mk (W15.out.trans (bz.mono W15.out.size))
    clear bz
    go_wp2_with fail
    go_ret
    exact ⟨rfl, WX.out⟩
  · have hfx : fin ≠ 0 := by omega
    have hemp := allOf_empty (W := pW) HIK.out h0
    obtain ⟨r, d, hr, hd4⟩ := HLAST.out h0
    have hbq : m.buf = [] ∧ m.rsb = [] := by
      rcases HIK.out.fin with h | h
      · exact absurd h h0
      · exact h.2
    have HFIN : Kept (∀ w1, Calls Try.prog 51 #[Cnf.v (⟨⟨r0, r1, r2, r3, ⟨mA, m.st.mem.length, mC⟩, ⟨kA, m.st.stack.length, kC⟩, cpc⟩, ⟨bA, m.buf.length, bC⟩, ⟨qA, m.rsb.length, qC⟩, fin⟩ : Cnf)] w1 fun en w' => en = .returned (.bool true) ∧ Below w1.heap.size w1 w') := ⟨fun w1 => by have h := final_any (⟨⟨r0, r1, r2, r3, ⟨mA, m.st.mem.length, mC⟩, ⟨kA, m.st.stack.length, kC⟩, cpc⟩, ⟨bA, m.buf.length, bC⟩, ⟨qA, m.rsb.length, qC⟩, fin⟩ : Cnf) w1; rwa [decide_eq_true (show Cnf.fin (⟨⟨r0, r1, r2, r3, ⟨mA, m.st.mem.length, mC⟩, ⟨kA, m.st.stack.length, kC⟩, cpc⟩, ⟨bA, m.buf.length, bC⟩, ⟨qA, m.rsb.length, qC⟩, fin⟩ : Cnf) ≠ 0 from hfx)] at h⟩
    obtain ⟨NA, hNA⟩ : ∃ n : Nat, n = (allOf pW pwin il m).length := ⟨_, rfl⟩
    have hN : ((NA : Int) == 0) = true := by rw [hNA, hemp]; rfl
    have hx57 : (true != true) = false := rfl
    have hx00 : ((0 : Int) != 0) = false := rfl
    have hx44 : ((4 : Int) != 4) = false := rfl
    have HALL : Kept (∀ w1, Below w10.heap.size w10 w1 → Calls Try.prog 37 #[Prg.v (⟨pW, pwin, pfuel, pr0, pr1, pr2, pr3, .slice pmA ml.length pmC, .slice plA plN plC, pA, pN, pC⟩ : Prg), Cnf.v (⟨⟨r0, r1, r2, r3, ⟨mA, m.st.mem.length, mC⟩, ⟨kA, m.st.stack.length, kC⟩, cpc⟩, ⟨bA, m.buf.length, bC⟩, ⟨qA, m.rsb.length, qC⟩, fin⟩ : Cnf)] w1 fun en w' => ∃ v, en = .returned v ∧ (∃ l : List Dir, l.length = NA ∧ OwnD w' w1.heap.size v l) ∧ Below w1.heap.size w1 w') := ⟨fun w1 hb => (HALL0.out w1 hb).mono fun en w' h => by obtain ⟨v, e, h1, h2⟩ := h; exact ⟨v, e, ⟨_, hNA.symm, h1⟩, h2⟩⟩
    have hol : out.length = r.length + 1 := by have h : out = r ++ [d] := hr; rw [h]; simp
    generalize r.length = q at hol
    obtain ⟨A9, c9, e9, -, hrd⟩ := HD.out.shape
    injection e9 with eA _ _
    subst eA
    obtain ⟨db, do_, rfl, hdb, hq⟩ := hrd.at_ (i := q) (by omega)
    have q0 : w10.cell? ⟨db, do_ + q * 2, none⟩ = some (.int .i64 (out[q]'(by omega)).kind) := hq 0 _ rfl
    have hdk : (out[q]'(by omega)).kind = 4 := by
      have h : out = r ++ [d] := hr
      have hq : q = r.length := by have := congrArg List.length h; simp at this; omega
      subst hq
      simp only [h, List.getElem_append_right (Nat.le_refl _), Nat.sub_self, List.getElem_cons_zero, hd4]
    rw [hdk] at q0
    have XKD : Kept (∀ w1, Below w10.heap.size w10 w1 → CellsAt w1 db (do_ + q * 2) [.int .i64 4]) := ⟨fun w1 hb => CellsAt.one ((hb.cell (p := ⟨db, do_ + q * 2, none⟩) hdb).trans q0)⟩
    have hq1 : ((q : Int) + 1 == 0) = false := by simp; omega
    have hqm : q + 1 ≤ 9223372036854775807 := by
      rcases HD.out.2 with ⟨h1, h2⟩ | ⟨g9, cap, cur, h1, h2, h3, h4, h5, -⟩
      · omega
      · have h6 : out.length ≤ 9223372036854775807 := Nat.le_trans h4 (Nat.le_trans h5 (by decide))
        omega
    have hq2 : IntKind.i64.wrap ((q : Int) + 1 - 1) = (q : Int) := by rw [IntWalk.i64_in _ (by omega)]; omega
    have hbl : m.buf.length = 0 := by rw [hbq.1]; rfl
    have hql : m.rsb.length = 0 := by rw [hbq.2]; rfl
    have XKP : Kept (∀ w1, Below w10.heap.size w10 w1 → CellsAt w1 w6.heap.size 0 [.int .i64 (pW), .int .i64 (pwin), .int .i64 (pfuel), .int .i64 (pr0), .int .i64 (pr1), .int .i64 (pr2), .int .i64 (pr3), .slice pmA ml.length pmC, .slice plA plN plC, .slice pA pN pC]) := ⟨fun w1 hb => CellsAt.of_block (heap_keep XP.out hb)⟩
    have XKC : Kept (∀ w1, Below w10.heap.size w10 w1 → CellsAt w1 w9.heap.size 0 [.int .i64 (r0), .int .i64 (r1), .int .i64 (r2), .int .i64 (r3), .slice mA m.st.mem.length mC, .slice kA m.st.stack.length kC, .int .i64 (cpc), .slice bA m.buf.length bC, .slice qA m.rsb.length qC, .int .i64 (fin)]) := ⟨fun w1 hb => CellsAt.of_block (heap_keep XC.out hb)⟩
    rw [hbl, hql] at XKC HALL HFIN
    rw [hol]
    clear hNA hemp HALL0 hdk hrd hq hr hd4 hbq q0 hbl hql
    refine region_tell (w10.heap.size) (G := fun _ => True) (ts := [
        .is (Value.agg #[.int .i64 (r0), .int .i64 (r1), .int .i64 (r2), .int .i64 (r3), .slice mA m.st.mem.length mC, .slice kA m.st.stack.length kC, .int .i64 (cpc), .slice bA 0 bC, .slice qA 0 qC, .int .i64 (fin)]),
        .draws (.bool true),
        .is (Value.agg #[.int .i64 (pW), .int .i64 (pwin), .int .i64 (pfuel), .int .i64 (pr0), .int .i64 (pr1), .int .i64 (pr2), .int .i64 (pr3), .slice pmA ml.length pmC, .slice plA plN plC, .slice pA pN pC]),
        .is (Value.agg #[.int .i64 (r0), .int .i64 (r1), .int .i64 (r2), .int .i64 (r3), .slice mA m.st.mem.length mC, .slice kA m.st.stack.length kC, .int .i64 (cpc), .slice bA 0 bC, .slice qA 0 qC, .int .i64 (fin)]),
        .makes (fun v _ => ∃ (A : Option Addr) (c : Nat), v = .slice A NA c),
        .is (.int .i64 (NA : Int)),
        .is (Value.bool true),
        .is (Value.bool false),
        .is (Value.bool false),
        .is (Value.agg #[.int .i64 (r0), .int .i64 (r1), .int .i64 (r2), .int .i64 (r3), .slice mA m.st.mem.length mC, .slice kA m.st.stack.length kC, .int .i64 (cpc), .slice bA 0 bC, .slice qA 0 qC, .int .i64 (fin)]),
        .draws (.bool true),
        .is (Value.bool true),
        .is (Value.pointer (some ⟨w9.heap.size, 7, none⟩)),
        .is (Value.slice bA 0 bC),
        .is (Value.int .i64 ((0 : Int))),
        .is (Value.bool false),
        .is (Value.bool false),
        .is (Value.pointer (some ⟨w9.heap.size, 8, none⟩)),
        .is (Value.slice qA 0 qC),
        .is (Value.int .i64 ((0 : Int))),
        .is (Value.bool false),
        .is (Value.bool false),
        .is (Value.bool false),
        .is (Value.slice (some ⟨db, do_, none⟩) (q + 1) dC),
        .is (Value.int .i64 ((q + 1 : Int))),
        .is (Value.bool false),
        .is (Value.bool false),
        .is (Value.bool false),
        .is (Value.slice (some ⟨db, do_, none⟩) (q + 1) dC),
        .is (Value.slice (some ⟨db, do_, none⟩) (q + 1) dC),
        .is (Value.int .i64 ((q + 1 : Int))),
        .is (Value.int .i64 ((q : Int))),
        .is (.pointer (some ⟨db, do_ + q * 2, none⟩)),
        .is (Value.pointer (some ⟨db, do_ + q * 2, none⟩)),
        .is (Value.int .i64 ((4 : Int))),
        .is (Value.bool false),
        .is (Value.bool false),
        .is (Value.bool false),
        .is (Value.bool false)])
      (fin := []) (cs := []) (by kernel_rfl) rfl (by kernel_rfl) (by kernel_rfl)
      ⟨trivial, trivial, trivial, trivial, grows_pure _, trivial, trivial, trivial, trivial, trivial, trivial, trivial, trivial, trivial, trivial, trivial, trivial, trivial, trivial, trivial, trivial, trivial, trivial, trivial, trivial, trivial, trivial, trivial, trivial, trivial, trivial, trivial, trivial, trivial, trivial, trivial, trivial, trivial, trivial, trivial⟩ (fun _ _ _ _ => trivial) (by simp) (by simp) trivial
      ⟨?_, ?_, ?_, ?_, ?_, ?_, ?_, ?_, ?_, ?_, ?_, ?_, ?_, ?_, ?_, ?_, ?_, ?_, ?_, ?_, ?_, ?_, ?_, ?_, ?_, ?_, ?_, ?_, ?_, ?_, ?_, ?_, ?_, ?_, ?_, ?_, ?_, ?_, ?_, trivial⟩ ?_
    · intro vals w1 hB _ hd
      clear hd
      refine one_value (v := Value.agg #[.int .i64 (r0), .int .i64 (r1), .int .i64 (r2), .int .i64 (r3), .slice mA m.st.mem.length mC, .slice kA m.st.stack.length kC, .int .i64 (cpc), .slice bA 0 bC, .slice qA 0 qC, .int .i64 (fin)]) rfl ?_ (post_is rfl)
      exact exec_load_row rfl (b := w9.heap.size) (off := 0) (by kernel_rfl) [.int .i64 (r0), .int .i64 (r1), .int .i64 (r2), .int .i64 (r3), .slice mA m.st.mem.length mC, .slice kA m.st.stack.length kC, .int .i64 (cpc), .slice bA 0 bC, .slice qA 0 qC, .int .i64 (fin)] (XKC.out w1 hB) Try.underlying41 rfl (by kernel_rfl)
    · intro vals w1 hB _ hd
      clear hd
      refine one_calls (f := 51) (args := #[.agg #[.int .i64 (r0), .int .i64 (r1), .int .i64 (r2), .int .i64 (r3), .slice mA m.st.mem.length mC, .slice kA m.st.stack.length kC, .int .i64 (cpc), .slice bA 0 bC, .slice qA 0 qC, .int .i64 (fin)]]) (w1 := w1) rfl (by kernel_rfl) ?_
      refine (HFIN.out w1).mono ?_
      rintro e1 w3 ⟨rfl, hb⟩
      exact ⟨_, rfl, post_draws rfl hb⟩
    · intro vals w1 hB _ hd
      clear hd
      refine one_value (v := Value.agg #[.int .i64 (pW), .int .i64 (pwin), .int .i64 (pfuel), .int .i64 (pr0), .int .i64 (pr1), .int .i64 (pr2), .int .i64 (pr3), .slice pmA ml.length pmC, .slice plA plN plC, .slice pA pN pC]) rfl ?_ (post_is rfl)
      exact exec_load_row rfl (b := w6.heap.size) (off := 0) (by kernel_rfl) [.int .i64 (pW), .int .i64 (pwin), .int .i64 (pfuel), .int .i64 (pr0), .int .i64 (pr1), .int .i64 (pr2), .int .i64 (pr3), .slice pmA ml.length pmC, .slice plA plN plC, .slice pA pN pC] (XKP.out w1 hB) Try.underlying33 rfl (by kernel_rfl)
    · intro vals w1 hB _ hd
      clear hd
      refine one_value (v := Value.agg #[.int .i64 (r0), .int .i64 (r1), .int .i64 (r2), .int .i64 (r3), .slice mA m.st.mem.length mC, .slice kA m.st.stack.length kC, .int .i64 (cpc), .slice bA 0 bC, .slice qA 0 qC, .int .i64 (fin)]) rfl ?_ (post_is rfl)
      exact exec_load_row rfl (b := w9.heap.size) (off := 0) (by kernel_rfl) [.int .i64 (r0), .int .i64 (r1), .int .i64 (r2), .int .i64 (r3), .slice mA m.st.mem.length mC, .slice kA m.st.stack.length kC, .int .i64 (cpc), .slice bA 0 bC, .slice qA 0 qC, .int .i64 (fin)] (XKC.out w1 hB) Try.underlying41 rfl (by kernel_rfl)
    · intro vals w1 hB _ hd
      clear hd
      refine one_calls (f := 37) (args := #[.agg #[.int .i64 (pW), .int .i64 (pwin), .int .i64 (pfuel), .int .i64 (pr0), .int .i64 (pr1), .int .i64 (pr2), .int .i64 (pr3), .slice pmA ml.length pmC, .slice plA plN plC, .slice pA pN pC], .agg #[.int .i64 (r0), .int .i64 (r1), .int .i64 (r2), .int .i64 (r3), .slice mA m.st.mem.length mC, .slice kA m.st.stack.length kC, .int .i64 (cpc), .slice bA 0 bC, .slice qA 0 qC, .int .i64 (fin)]]) (w1 := w1) rfl (by kernel_rfl) ?_
      refine (HALL.out w1 hB).mono ?_
      rintro e1 w3 ⟨v3, rfl, ⟨l3, hl3, ho⟩, hb⟩
      obtain ⟨A3, c3, rfl, -, -⟩ := ho.shape
      exact ⟨_, rfl, post_makes rfl ⟨A3, c3, by rw [hl3]⟩ hb⟩
    · intro vals w1 hB _ hd
      obtain ⟨A3, c3, e3⟩ : ∃ (A : Option Addr) (c : Nat), vals 4 = .slice A NA c := hd 4 (by kernel_rfl)
      clear hd
      refine one_value (v := .int .i64 (NA : Int)) rfl ?_ (post_is rfl)
      rw [vals_at e3]
      kernel_rfl
    · intro vals w1 hB _ hd
      clear hd
      refine one_value (v := Value.bool true) rfl ?_ (post_is rfl)
      exact Eq.trans (b := .ok (.value (.bool (((NA : Int)) == (0)))) w1) (by kernel_rfl) (by rw [hN])
    · intro vals w1 hB _ hd
      clear hd
      refine one_value (v := Value.bool false) rfl ?_ (post_is rfl)
      exact Eq.trans (b := .ok (.value (.bool ((true) != (true)))) w1) (by kernel_rfl) (by rw [hx57])
    · intro vals w1 hB _ hd
      clear hd
      refine one_value (v := Value.bool false) rfl ?_ (post_is rfl)
      kernel_rfl
    · intro vals w1 hB _ hd
      clear hd
      refine one_value_g (v := Value.agg #[.int .i64 (r0), .int .i64 (r1), .int .i64 (r2), .int .i64 (r3), .slice mA m.st.mem.length mC, .slice kA m.st.stack.length kC, .int .i64 (cpc), .slice bA 0 bC, .slice qA 0 qC, .int .i64 (fin)]) (by kernel_rfl) ?_ (post_is rfl)
      exact exec_load_row rfl (b := w9.heap.size) (off := 0) (by kernel_rfl) [.int .i64 (r0), .int .i64 (r1), .int .i64 (r2), .int .i64 (r3), .slice mA m.st.mem.length mC, .slice kA m.st.stack.length kC, .int .i64 (cpc), .slice bA 0 bC, .slice qA 0 qC, .int .i64 (fin)] (XKC.out w1 hB) Try.underlying41 rfl (by kernel_rfl)
    · intro vals w1 hB _ hd
      clear hd
      refine one_calls_g (f := 51) (args := #[.agg #[.int .i64 (r0), .int .i64 (r1), .int .i64 (r2), .int .i64 (r3), .slice mA m.st.mem.length mC, .slice kA m.st.stack.length kC, .int .i64 (cpc), .slice bA 0 bC, .slice qA 0 qC, .int .i64 (fin)]]) (w1 := w1) (by kernel_rfl) (by kernel_rfl) ?_
      refine (HFIN.out w1).mono ?_
      rintro e1 w3 ⟨rfl, hb⟩
      exact ⟨_, rfl, post_draws rfl hb⟩
    · intro vals w1 hB _ hd
      clear hd
      refine one_value_g (v := Value.bool true) (by kernel_rfl) ?_ (post_is rfl)
      kernel_rfl
    · intro vals w1 hB _ hd
      clear hd
      refine one_value_g (v := Value.pointer (some ⟨w9.heap.size, 7, none⟩)) (by kernel_rfl) ?_ (post_is rfl)
      kernel_rfl
    · intro vals w1 hB _ hd
      clear hd
      refine one_value_g (v := Value.slice bA 0 bC) (by kernel_rfl) ?_ (post_is rfl)
      exact exec_cell rfl (by kernel_rfl) ((XKC.out w1 hB) 7 _ rfl) Try.underlying39 rfl
    · intro vals w1 hB _ hd
      clear hd
      refine one_value_g (v := Value.int .i64 ((0 : Int))) (by kernel_rfl) ?_ (post_is rfl)
      kernel_rfl
    · intro vals w1 hB _ hd
      clear hd
      refine one_value_g (v := Value.bool false) (by kernel_rfl) ?_ (post_is rfl)
      exact Eq.trans (b := .ok (.value (.bool (((0 : Int)) != (0)))) w1) (by kernel_rfl) (by rw [hx00])
    · intro vals w1 hB _ hd
      clear hd
      refine one_value_g (v := Value.bool false) (by kernel_rfl) ?_ (post_is rfl)
      kernel_rfl
    · intro vals w1 hB _ hd
      clear hd
      refine one_value_g (v := Value.pointer (some ⟨w9.heap.size, 8, none⟩)) (by kernel_rfl) ?_ (post_is rfl)
      kernel_rfl
    · intro vals w1 hB _ hd
      clear hd
      refine one_value_g (v := Value.slice qA 0 qC) (by kernel_rfl) ?_ (post_is rfl)
      exact exec_cell rfl (by kernel_rfl) ((XKC.out w1 hB) 8 _ rfl) Try.underlying22 rfl
    · intro vals w1 hB _ hd
      clear hd
      refine one_value_g (v := Value.int .i64 ((0 : Int))) (by kernel_rfl) ?_ (post_is rfl)
      kernel_rfl
    · intro vals w1 hB _ hd
      clear hd
      refine one_value_g (v := Value.bool false) (by kernel_rfl) ?_ (post_is rfl)
      exact Eq.trans (b := .ok (.value (.bool (((0 : Int)) != (0)))) w1) (by kernel_rfl) (by rw [hx00])
    · intro vals w1 hB _ hd
      clear hd
      refine one_value_g (v := Value.bool false) (by kernel_rfl) ?_ (post_is rfl)
      kernel_rfl
    · intro vals w1 hB _ hd
      clear hd
      refine one_value_g (v := Value.bool false) (by kernel_rfl) ?_ (post_is rfl)
      kernel_rfl
    · intro vals w1 hB _ hd
      clear hd
      refine one_value_g (v := Value.slice (some ⟨db, do_, none⟩) (q + 1) dC) (by kernel_rfl) ?_ (post_is rfl)
      kernel_rfl
    · intro vals w1 hB _ hd
      clear hd
      refine one_value_g (v := Value.int .i64 ((q + 1 : Int))) (by kernel_rfl) ?_ (post_is rfl)
      kernel_rfl
    · intro vals w1 hB _ hd
      clear hd
      refine one_value_g (v := Value.bool false) (by kernel_rfl) ?_ (post_is rfl)
      exact Eq.trans (b := .ok (.value (.bool (((q + 1 : Int)) == (0)))) w1) (by kernel_rfl) (by rw [hq1])
    · intro vals w1 hB _ hd
      clear hd
      refine one_value_g (v := Value.bool false) (by kernel_rfl) ?_ (post_is rfl)
      kernel_rfl
    · intro vals w1 hB _ hd
      clear hd
      refine one_value_g (v := Value.bool false) (by kernel_rfl) ?_ (post_is rfl)
      kernel_rfl
    · intro vals w1 hB _ hd
      clear hd
      refine one_value_g (v := Value.slice (some ⟨db, do_, none⟩) (q + 1) dC) (by kernel_rfl) ?_ (post_is rfl)
      kernel_rfl
    · intro vals w1 hB _ hd
      clear hd
      refine one_value_g (v := Value.slice (some ⟨db, do_, none⟩) (q + 1) dC) (by kernel_rfl) ?_ (post_is rfl)
      kernel_rfl
    · intro vals w1 hB _ hd
      clear hd
      refine one_value_g (v := Value.int .i64 ((q + 1 : Int))) (by kernel_rfl) ?_ (post_is rfl)
      kernel_rfl
    · intro vals w1 hB _ hd
      clear hd
      refine one_value_g (v := Value.int .i64 ((q : Int))) (by kernel_rfl) ?_ (post_is rfl)
      exact Eq.trans (b := .ok (.value (.int .i64 (IntKind.i64.wrap (((q + 1 : Int)) - (1))))) w1) (by kernel_rfl) (by rw [hq2])
    · intro vals w1 hB _ hd
      clear hd
      refine one_value_g (v := .pointer (some ⟨db, do_ + q * 2, none⟩)) (by kernel_rfl) ?_ (post_is rfl)
      exact exec_index (k := q) (n := q + 1) (c := dC) (b := db) (off := do_) (size := 2) rfl (by kernel_rfl) (by kernel_rfl) Try.underlying42 (by kernel_rfl) (by omega)
    · intro vals w1 hB _ hd
      clear hd
      refine one_value_g (v := Value.pointer (some ⟨db, do_ + q * 2, none⟩)) (by kernel_rfl) ?_ (post_is rfl)
      kernel_rfl
    · intro vals w1 hB _ hd
      clear hd
      refine one_value_g (v := Value.int .i64 ((4 : Int))) (by kernel_rfl) ?_ (post_is rfl)
      exact exec_cell rfl (by kernel_rfl) ((XKD.out w1 hB) 0 _ rfl) Try.underlying3 rfl
    · intro vals w1 hB _ hd
      clear hd
      refine one_value_g (v := Value.bool false) (by kernel_rfl) ?_ (post_is rfl)
      exact Eq.trans (b := .ok (.value (.bool (((4 : Int)) != (4)))) w1) (by kernel_rfl) (by rw [hx44])
    · intro vals w1 hB _ hd
      clear hd
      refine one_value_g (v := Value.bool false) (by kernel_rfl) ?_ (post_is rfl)
      kernel_rfl
    · intro vals w1 hB _ hd
      clear hd
      refine one_value_g (v := Value.bool false) (by kernel_rfl) ?_ (post_is rfl)
      kernel_rfl
    · intro vals w1 hB _ hd
      clear hd
      refine one_value (v := Value.bool false) rfl ?_ (post_is rfl)
      kernel_rfl
    intro vals w15 b15 _ hr
    clear hr
    simp only [fillT, Tell.is, Tell.draws, Tell.makes, Act.put, List.setIfInBounds_toArray, List.set_cons_zero, List.set_cons_succ]
    have W15 := Kept.mk (W10.out.trans (b15.mono W10.out.size))
    go_wp2_with fail
    refine (HAW.out w15).mono ?_
    rintro en wz ⟨rfl, bz⟩
    have WX := Kept.mk (W15.out.trans (bz.mono W15.out.size))
    clear bz
    go_wp2_with fail
    go_ret
    exact ⟨rfl, WX.out⟩
theorem cfin_law (A2 : Option Addr) (c2 : Nat) (mk : List Int) (A3 : Option Addr) (c3 : Nat) (l : List Int) (A4 : Option Addr) (c4 : Nat) (wk : List Int) (w : World) (_hc2 : mk.length ≤ c2) (_hm2 : c2 ≤ maxLen) (hr2 : RdI w A2 mk) (_ok2 : ∀ x ∈ mk, -9223372036854775808 ≤ x ∧ x ≤ 9223372036854775807) (_hc3 : l.length ≤ c3) (_hm3 : c3 ≤ maxLen) (hr3 : RdI w A3 l) (_ok3 : ∀ x ∈ l, -9223372036854775808 ≤ x ∧ x ≤ 9223372036854775807) (_hc4 : wk.length ≤ c4) (_hm4 : c4 ≤ maxLen) (hr4 : RdI w A4 wk) (_ok4 : ∀ x ∈ wk, -9223372036854775808 ≤ x ∧ x ≤ 9223372036854775807) :
    Calls Try.prog 14 #[.slice A2 mk.length c2, .slice A3 l.length c3, .slice A4 wk.length c4] w (SaysTrue w) := cfin_walk A2 c2 mk A3 c3 l A4 c4 wk w hr2 hr3 hr4
end Go.Proofs.Ytchldbkjapnlcaa
