/- The law RetiSteps: each that is committed is the next step that the program does one by one. -/
import Derived.Test.YtchldbkjapnlcaaJSeqm
import Derived.Test.YtchldbkjapnlcaaJsx
import Derived.Test.YtchldbkjapnlcaaJr
import Derived.Test.YtchldbkjapnlcaaJl
import Derived.Test.YtchldbkjapnlcaaJu
import Derived.Deep.DeepCutAuto
set_option linter.unusedVariables false
set_option linter.unusedSimpArgs false
namespace Go.Proofs.Ytchldbkjapnlcaa
open Go.RowKit
section
structure F22 (N9 S15 S17 : Nat) (c0 : Cnf) (y0 : Stt) (c1 : Cnf) (t1 : Stt) (m1 : Conf) (s1 : State) (da db : Bool) (w : World) : Prop where
 a : w.heap[N9]? = some (.cells (if da = true then c1.cs else c0.cs).toArray 41 (0, 0))
 b : w.heap[N9 + 1]? = some (.cells (if db = true then t1.cs else y0.cs).toArray 36 (0, 0))
 x : w.heap[S15]? = some (.cells c1.cs.toArray 41 (0, 0))
 t : w.heap[S17]? = some (.cells t1.cs.toArray 36 (0, 0))
 ty : CfTy w c1
 cf : CfIs w c1 m1
 st : StAll w t1 s1
section
variable {N9 S15 S17 : Nat} {c0 : Cnf} {y0 : Stt} {c1 : Cnf} {t1 : Stt} {m1 : Conf} {s1 : State} {done : Nat → Bool} {w w' : World}
theorem F22.start (a : w.heap[N9]? = some (.cells c0.cs.toArray 41 (0, 0))) (b : w.heap[N9 + 1]? = some (.cells y0.cs.toArray 36 (0, 0))) (x : w.heap[S15]? = some (.cells c1.cs.toArray 41 (0, 0))) (t : w.heap[S17]? = some (.cells t1.cs.toArray 36 (0, 0)))
  (ty : CfTy w c1) (cf : CfIs w c1 m1) (st : StAll w t1 s1) : F22 N9 S15 S17 c0 y0 c1 t1 m1 s1 false false w.drew := ⟨a, b, x, t, ty.past (Below.refl _ _).drew, cf.past (Below.refl _ _).drew, st.past (Below.refl _ _).drew⟩
theorem F22.other {i : Nat} (h : F22 N9 S15 S17 c0 y0 c1 t1 m1 s1 (done 2) (done 3) w) (h2 : ¬ 2 = i) (h3 : ¬ 3 = i) (hb : Below w.heap.size w w') : F22 N9 S15 S17 c0 y0 c1 t1 m1 s1 (done 2 || 2 == i) (done 3 || 3 == i) w' := by
 rw [show (2 == i) = false by simpa using h2, show (3 == i) = false by simpa using h3, Bool.or_false, Bool.or_false]
 exact ⟨q01 h.a hb, q01 h.b hb, q01 h.x hb, q01 h.t hb, h.ty.past hb, h.cf.past hb, h.st.past hb⟩
theorem F22.sa (h : F22 N9 S15 S17 c0 y0 c1 t1 m1 s1 (done 2) (done 3) w) (hg : w.grownBy w' (some N9)) (hw : w'.heap[N9]? = some (.cells c1.cs.toArray 41 (0, 0))) (h15 : N9 + 1 < S15) (h17 : N9 + 1 < S17) : F22 N9 S15 S17 c0 y0 c1 t1 m1 s1 (done 2 || 2 == 2) (done 3 || 3 == 2) w' := by
 rw [show ((2 : Nat) == 2) = true by rfl, show ((3 : Nat) == 2) = false by rfl, Bool.or_false, Bool.or_true]
 have hs := (CfAll.of h.cf h.ty).row ⟨⟨_, h.a⟩, hg⟩ (by decide) (by decide)
 have far : ∀ {g : Nat} {o : Obj}, g ≠ N9 → w.heap[g]? = some o → w'.heap[g]? = some o := fun {g o} hn ho => (hg.block g (Array.getElem?_eq_some_iff.1 ho).1 (by intro e; injection e with e; omega)).trans ho
 exact ⟨by rw [if_pos rfl]; exact hw, far (by omega) h.b, far (by omega) h.x, far (by omega) h.t, hs.ty, hs.cf h.cf, h.st.row ⟨⟨_, h.a⟩, hg⟩ (by decide)⟩
theorem F22.sb (h : F22 N9 S15 S17 c0 y0 c1 t1 m1 s1 (done 2) (done 3) w) (hg : w.grownBy w' (some (N9 + 1))) (hw : w'.heap[N9 + 1]? = some (.cells t1.cs.toArray 36 (0, 0))) (h15 : N9 + 1 < S15) (h17 : N9 + 1 < S17) : F22 N9 S15 S17 c0 y0 c1 t1 m1 s1 (done 2 || 2 == 3) (done 3 || 3 == 3) w' := by
 rw [show ((2 : Nat) == 3) = false by rfl, show ((3 : Nat) == 3) = true by rfl, Bool.or_false, Bool.or_true]
 have hs := (CfAll.of h.cf h.ty).row ⟨⟨_, h.b⟩, hg⟩ (by decide) (by decide)
 have far : ∀ {g : Nat} {o : Obj}, g ≠ N9 + 1 → w.heap[g]? = some o → w'.heap[g]? = some o := fun {g o} hn ho => (hg.block g (Array.getElem?_eq_some_iff.1 ho).1 (by intro e; injection e with e; omega)).trans ho
 exact ⟨far (by omega) h.a, by rw [if_pos rfl]; exact hw, far (by omega) h.x, far (by omega) h.t, hs.ty, hs.cf h.cf, h.st.row ⟨⟨_, h.b⟩, hg⟩ (by decide)⟩
end
theorem ret_can {W win : Int} {il : List Inst} {m : Conf} {d : Dir} (hd : d ∈ allOf W win il m) (h4 : d.kind = 4) : canRetOf il m = true := by
 unfold allOf at hd
 rw [List.mem_append, List.mem_append, List.mem_append, q20, q20, q20] at hd
 rcases hd with ((⟨i, hi, _, rfl⟩ | ⟨i, hi, hc, rfl⟩) | ⟨i, hi, hc, rfl⟩) | hc
 ·exact absurd h4 (by show ¬ (1 : Int) = 4; decide)
 ·exact absurd h4 (by show ¬ (2 : Int) = 4; decide)
 ·exact absurd h4 (by show ¬ (3 : Int) = 4; decide)
 ·split at hc
  ·assumption
  ·cases hc
set_option maxRecDepth 100000 in
set_option maxHeartbeats 6000000 in
theorem rtsteps_walk (A2 : Option Addr) (c2 : Nat) (mk : List Int) (A3 : Option Addr) (c3 : Nat) (l : List Int) (A4 : Option Addr) (c4 : Nat) (wk : List Int) (w : World) (hc4 : wk.length ≤ c4) (hr2 : RdI w A2 mk) (hr3 : RdI w A3 l) (hr4 : RdI w A4 wk) :
  Calls Try.prog 8 #[.slice A2 mk.length c2, .slice A3 l.length c3, .slice A4 wk.length c4] w (SaysTrue w) := by
 have HAW := Kept.mk awake16
 have HR2 := Kept.mk hr2
 have HR3 := Kept.mk hr3
 have HR4 := Kept.mk hr4
 clear hr2 hr3 hr4
 go_enter Try.func8, Try.ntmps8
 go_wp2_with fail
 refine (make_at A2 mk mk.length c2 w rfl HR2.out).mono ?_
 rintro en w6 ⟨p, il, ml, rfl, hmk, b6⟩
 have W6 := Kept.mk b6
 obtain ⟨pmA, pmC, hpm, -, -⟩ := hmk.mem
 obtain ⟨plA, plN, plC, hpl⟩ := hmk.lab
 obtain ⟨pW, pwin, pfuel, pr0, pr1, pr2, pr3, pmems, plabels, pA, pN, pC⟩ := p
 simp only at hpm hpl
 subst hpm hpl
 have HMK := Kept.mk hmk
 clear hmk b6
 obtain ⟨HPM, hPM⟩ : ∃ x : Kept (ProgOk pW pwin il), x = x := ⟨⟨make_prog HMK.out⟩, rfl⟩
 clear hPM
 go_wp2_with fail
 have ba := q00 w6 (.cells (Prg.cs (⟨pW, pwin, pfuel, pr0, pr1, pr2, pr3, .slice pmA ml.length pmC, .slice plA plN plC, pA, pN, pC⟩ : Prg)).toArray 33)
 refine (states_mach (⟨pW, pwin, pfuel, pr0, pr1, pr2, pr3, .slice pmA ml.length pmC, .slice plA plN plC, pA, pN, pC⟩ : Prg) il ml A3 l l.length c3 (w6.alloc (.cells (Prg.cs (⟨pW, pwin, pfuel, pr0, pr1, pr2, pr3, .slice pmA ml.length pmC, .slice plA plN plC, pA, pN, pC⟩ : Prg)).toArray 33)) rfl (HMK.out.past ba) (HR3.out.past (W6.out.trans (ba.mono W6.out.size)))).mono ?_
 rintro en w7 ⟨s, t, ms, mt, rfl, hs, ht, b7⟩
 have XP := Kept.mk (q01 (heap_alloc_new w6 (.cells (Prg.cs (⟨pW, pwin, pfuel, pr0, pr1, pr2, pr3, .slice pmA ml.length pmC, .slice plA plN plC, pA, pN, pC⟩ : Prg)).toArray 33)) b7)
 have W7 := Kept.mk ((W6.out.trans (ba.mono W6.out.size)).trans (b7.mono (by have := W6.out.size; simp; omega)))
 have HMK := Kept.mk ((HMK.out.past ba).past b7)
 have HS := Kept.mk hs
 have HT := Kept.mk ht
 clear hs ht b7 ba
 obtain ⟨s0, s1, s2, s3, ⟨sA, sN, sC⟩, ⟨uA, uN, uC⟩, s6⟩ := s
 obtain ⟨t0, t1, t2, t3, ⟨tA, tN, tC⟩, ⟨vA, vN, vC⟩, t6⟩ := t
 go_upto_region 3 with (fail)
 have bb := (q00 w7 (.cells #[.int .i64 s0, .int .i64 s1, .int .i64 s2, .int .i64 s3, .slice sA sN sC, .slice uA uN uC, .int .i64 s6] 36)).alloc (by simp) (.cells #[.int .i64 t0, .int .i64 t1, .int .i64 t2, .int .i64 t3, .slice tA tN tC, .slice vA vN vC, .int .i64 t6] 36)
 have XS := Kept.mk ((heap_alloc_old _ _ (by simp)).trans (heap_alloc_new w7 (.cells #[.int .i64 s0, .int .i64 s1, .int .i64 s2, .int .i64 s3, .slice sA sN sC, .slice uA uN uC, .int .i64 s6] 36)) : ((w7.alloc (.cells #[.int .i64 s0, .int .i64 s1, .int .i64 s2, .int .i64 s3, .slice sA sN sC, .slice uA uN uC, .int .i64 s6] 36)).alloc (.cells #[.int .i64 t0, .int .i64 t1, .int .i64 t2, .int .i64 t3, .slice tA tN tC, .slice vA vN vC, .int .i64 t6] 36)).heap[w7.heap.size]? = some (.cells #[.int .i64 s0, .int .i64 s1, .int .i64 s2, .int .i64 s3, .slice sA sN sC, .slice uA uN uC, .int .i64 s6] 36))
 have XT := Kept.mk (heap_alloc2_new w7 (.cells #[.int .i64 s0, .int .i64 s1, .int .i64 s2, .int .i64 s3, .slice sA sN sC, .slice uA uN uC, .int .i64 s6] 36) (.cells #[.int .i64 t0, .int .i64 t1, .int .i64 t2, .int .i64 t3, .slice tA tN tC, .slice vA vN vC, .int .i64 t6] 36))
 have XP := Kept.mk (q01 XP.out bb)
 have W8 := Kept.mk (W7.out.trans (bb.mono W7.out.size))
 have HMK := Kept.mk (HMK.out.past bb)
 have HS := Kept.mk (HS.out.past bb)
 have HT := Kept.mk (HT.out.past bb)
 clear bb
 generalize (w7.alloc (.cells #[.int .i64 s0, .int .i64 s1, .int .i64 s2, .int .i64 s3, .slice sA sN sC, .slice uA uN uC, .int .i64 s6] 36)).alloc (.cells #[.int .i64 t0, .int .i64 t1, .int .i64 t2, .int .i64 t3, .slice tA tN tC, .slice vA vN vC, .int .i64 t6] 36) = w8 at *
 have Y6 := fun j => cell_of_row w8 w6.heap.size j _ _ _ XP.out
 have Y7 := fun j => cell_of_row w8 w7.heap.size j _ _ _ XS.out
 simp only [Prg.cs] at Y6
 have HOK := Kept.mk HS.out.ok
 clear HT XT Y6
 go_wp2_with fail
 refine (begin_ref ⟨s0, s1, s2, s3, ⟨sA, sN, sC⟩, ⟨uA, uN, uC⟩, s6⟩ w8).mono ?_
 rintro en w9 ⟨rfl, b9⟩
 have XP := Kept.mk (q01 XP.out b9)
 have XS := Kept.mk (q01 XS.out b9)
 have W9 := Kept.mk (W8.out.trans (b9.mono W8.out.size))
 have HS := Kept.mk (HS.out.past b9)
 have HMK := Kept.mk (HMK.out.past b9)
 have HPI9 := Kept.mk HMK.out.pi
 have hw6 : w6.heap.size < w9.heap.size := (Array.getElem?_eq_some_iff.1 XP.out).1
 have hwN : w.heap.size ≤ w9.heap.size := W9.out.size
 have hs7 : w7.heap.size < w9.heap.size := (Array.getElem?_eq_some_iff.1 XS.out).1
 clear Y7 b9
 have Y7 := fun j => cell_of_row w9 w7.heap.size j _ _ _ XS.out
 have Y7a := fun j => cell_of_row (w9.alloc (.cells #[.int .i64 s0, .int .i64 s1, .int .i64 s2, .int .i64 s3, .slice sA sN sC, .slice uA uN uC, .int .i64 s6, .slice Sl.none.A Sl.none.n Sl.none.c, .slice Sl.none.A Sl.none.n Sl.none.c, .int .i64 0] 41)) w7.heap.size j _ _ _ (q01 XS.out (q00 _ _))
 go_upto_region 5 with (fail)
 have bb := (q00 w9 (.cells #[.int .i64 s0, .int .i64 s1, .int .i64 s2, .int .i64 s3, .slice sA sN sC, .slice uA uN uC, .int .i64 s6, .slice Sl.none.A Sl.none.n Sl.none.c, .slice Sl.none.A Sl.none.n Sl.none.c, .int .i64 0] 41)).alloc (by simp) (.cells #[.int .i64 s0, .int .i64 s1, .int .i64 s2, .int .i64 s3, .slice sA sN sC, .slice uA uN uC, .int .i64 s6] 36)
 have x10 : ((w9.alloc (.cells #[.int .i64 s0, .int .i64 s1, .int .i64 s2, .int .i64 s3, .slice sA sN sC, .slice uA uN uC, .int .i64 s6, .slice Sl.none.A Sl.none.n Sl.none.c, .slice Sl.none.A Sl.none.n Sl.none.c, .int .i64 0] 41)).alloc (.cells #[.int .i64 s0, .int .i64 s1, .int .i64 s2, .int .i64 s3, .slice sA sN sC, .slice uA uN uC, .int .i64 s6] 36)).heap[w9.heap.size]? = _ := (heap_alloc_old _ _ (by simp)).trans (heap_alloc_new w9 (.cells #[.int .i64 s0, .int .i64 s1, .int .i64 s2, .int .i64 s3, .slice sA sN sC, .slice uA uN uC, .int .i64 s6, .slice Sl.none.A Sl.none.n Sl.none.c, .slice Sl.none.A Sl.none.n Sl.none.c, .int .i64 0] 41))
 have x11 : ((w9.alloc (.cells #[.int .i64 s0, .int .i64 s1, .int .i64 s2, .int .i64 s3, .slice sA sN sC, .slice uA uN uC, .int .i64 s6, .slice Sl.none.A Sl.none.n Sl.none.c, .slice Sl.none.A Sl.none.n Sl.none.c, .int .i64 0] 41)).alloc (.cells #[.int .i64 s0, .int .i64 s1, .int .i64 s2, .int .i64 s3, .slice sA sN sC, .slice uA uN uC, .int .i64 s6] 36)).heap[w9.heap.size + 1]? = _ := heap_alloc2_new w9 (.cells #[.int .i64 s0, .int .i64 s1, .int .i64 s2, .int .i64 s3, .slice sA sN sC, .slice uA uN uC, .int .i64 s6, .slice Sl.none.A Sl.none.n Sl.none.c, .slice Sl.none.A Sl.none.n Sl.none.c, .int .i64 0] 41) (.cells #[.int .i64 s0, .int .i64 s1, .int .i64 s2, .int .i64 s3, .slice sA sN sC, .slice uA uN uC, .int .i64 s6] 36)
 have XP := Kept.mk (q01 XP.out bb)
 have WL := Kept.mk (W9.out.trans (bb.mono W9.out.size))
 have HS := Kept.mk (HS.out.past bb)
 have HMK := Kept.mk (HMK.out.past bb)
 have X10 : Kept (((w9.alloc (.cells #[.int .i64 s0, .int .i64 s1, .int .i64 s2, .int .i64 s3, .slice sA sN sC, .slice uA uN uC, .int .i64 s6, .slice Sl.none.A Sl.none.n Sl.none.c, .slice Sl.none.A Sl.none.n Sl.none.c, .int .i64 0] 41)).alloc (.cells #[.int .i64 s0, .int .i64 s1, .int .i64 s2, .int .i64 s3, .slice sA sN sC, .slice uA uN uC, .int .i64 s6] 36)).heap[w9.heap.size]? = some (.cells (Cnf.cs ⟨⟨s0, s1, s2, s3, ⟨sA, sN, sC⟩, ⟨uA, uN, uC⟩, s6⟩, Sl.none, Sl.none, 0⟩).toArray 41 (0, 0))) := ⟨x10⟩
 have X11 : Kept (((w9.alloc (.cells #[.int .i64 s0, .int .i64 s1, .int .i64 s2, .int .i64 s3, .slice sA sN sC, .slice uA uN uC, .int .i64 s6, .slice Sl.none.A Sl.none.n Sl.none.c, .slice Sl.none.A Sl.none.n Sl.none.c, .int .i64 0] 41)).alloc (.cells #[.int .i64 s0, .int .i64 s1, .int .i64 s2, .int .i64 s3, .slice sA sN sC, .slice uA uN uC, .int .i64 s6] 36)).heap[w9.heap.size + 1]? = some (.cells (Stt.cs ⟨s0, s1, s2, s3, ⟨sA, sN, sC⟩, ⟨uA, uN, uC⟩, s6⟩).toArray 36 (0, 0))) := ⟨x11⟩
 have SL : w9.heap.size + 2 ≤ ((w9.alloc (.cells #[.int .i64 s0, .int .i64 s1, .int .i64 s2, .int .i64 s3, .slice sA sN sC, .slice uA uN uC, .int .i64 s6, .slice Sl.none.A Sl.none.n Sl.none.c, .slice Sl.none.A Sl.none.n Sl.none.c, .int .i64 0] 41)).alloc (.cells #[.int .i64 s0, .int .i64 s1, .int .i64 s2, .int .i64 s3, .slice sA sN sC, .slice uA uN uC, .int .i64 s6] 36)).heap.size := by simp
 have HPI : Kept (∀ w', Below w9.heap.size ((w9.alloc (.cells #[.int .i64 s0, .int .i64 s1, .int .i64 s2, .int .i64 s3, .slice sA sN sC, .slice uA uN uC, .int .i64 s6, .slice Sl.none.A Sl.none.n Sl.none.c, .slice Sl.none.A Sl.none.n Sl.none.c, .int .i64 0] 41)).alloc (.cells #[.int .i64 s0, .int .i64 s1, .int .i64 s2, .int .i64 s3, .slice sA sN sC, .slice uA uN uC, .int .i64 s6] 36)) w' → PIs w' (⟨pW, pwin, pfuel, pr0, pr1, pr2, pr3, .slice pmA ml.length pmC, .slice plA plN plC, pA, pN, pC⟩ : Prg) il) := ⟨fun w' h => HPI9.out.past (bb.trans h)⟩
 clear HPI9
 clear bb Y7 Y7a x10 x11 XS W8 W9
 generalize (w9.alloc (.cells #[.int .i64 s0, .int .i64 s1, .int .i64 s2, .int .i64 s3, .slice sA sN sC, .slice uA uN uC, .int .i64 s6, .slice Sl.none.A Sl.none.n Sl.none.c, .slice Sl.none.A Sl.none.n Sl.none.c, .int .i64 0] 41)).alloc (.cells #[.int .i64 s0, .int .i64 s1, .int .i64 s2, .int .i64 s3, .slice sA sN sC, .slice uA uN uC, .int .i64 s6] 36) = wl at *
 obtain ⟨N9, hN9⟩ : ∃ N, w9.heap.size = N := ⟨_, rfl⟩
 rw [hN9] at X10 X11 SL hw6 hwN HPI ⊢
 clear hN9
 have M0 : Kept (Mach wl (⟨pW, pwin, pfuel, pr0, pr1, pr2, pr3, .slice pmA ml.length pmC, .slice plA plN plC, pA, pN, pC⟩ : Prg) il ⟨⟨s0, s1, s2, s3, ⟨sA, sN, sC⟩, ⟨uA, uN, uC⟩, s6⟩, Sl.none, Sl.none, 0⟩ ⟨ms, [], [], 0⟩ ms.mem.length 0) := ⟨⟨HMK.out.pi, HPM.out, ⟨HS.out.st, RdEs.nil, RdIs.nil, rfl⟩, ⟨HS.out.tm, HS.out.ts, Tag.zero, Tag.zero⟩, inv_start HPM.out.win.1 HOK.out, Nat.zero_le _, HOK.out.ml⟩⟩
 have C0 : Kept (Chain il ⟨ms, [], [], 0⟩) := ⟨Chain.begin il ms (by rw [HOK.out.pc]; decide)⟩
 have T0 : Kept (Sett pW il ⟨ms, [], [], 0⟩) := ⟨fun j e h => by cases j <;> cases h⟩
 have Q0 : Kept (StAll wl ⟨s0, s1, s2, s3, ⟨sA, sN, sC⟩, ⟨uA, uN, uC⟩, s6⟩ (seqSt ⟨ms, [], [], 0⟩)) := ⟨⟨HS.out.st, HS.out.tm, HS.out.ts⟩⟩
 generalize ms.mem.length = L at *
 go_wp2_with fail
 go_loopw [12] (fun v wr => ∃ (k : Nat) (m : Conf) (c : Cnf) (cs : Stt), v = .int .i64 ((k : Nat) : Int) ∧ k ≤ 60 ∧ Mach wr (⟨pW, pwin, pfuel, pr0, pr1, pr2, pr3, .slice pmA ml.length pmC, .slice plA plN plC, pA, pN, pC⟩ : Prg) il c m L k ∧ Chain il m ∧ Sett pW il m ∧ StAll wr cs (seqSt m) ∧
  wr.heap[N9]? = some (.cells c.cs.toArray 41 (0, 0)) ∧ wr.heap[N9 + 1]? = some (.cells cs.cs.toArray 36 (0, 0)) ∧ wr.heap[w6.heap.size]? = some (.cells (Prg.cs (⟨pW, pwin, pfuel, pr0, pr1, pr2, pr3, .slice pmA ml.length pmC, .slice plA plN plC, pA, pN, pC⟩ : Prg)).toArray 33 (0, 0)) ∧ Below N9 wl wr) (fun v _ => (60 - intOf v).toNat)
 case atStart => exact ⟨0, ⟨ms, [], [], 0⟩, ⟨⟨s0, s1, s2, s3, ⟨sA, sN, sC⟩, ⟨uA, uN, uC⟩, s6⟩, Sl.none, Sl.none, 0⟩, ⟨s0, s1, s2, s3, ⟨sA, sN, sC⟩, ⟨uA, uN, uC⟩, s6⟩, rfl, by omega, M0.out, C0.out, T0.out, Q0.out, X10.out, X11.out, XP.out, Below.refl _ _⟩
 case round =>
  obtain ⟨k, m, c, cs, rfl, hk, hm, hch, hse, hst, hx10, hx11, hx6, hb⟩ := hrel
  have HM := Kept.mk hm
  have HCH := Kept.mk hch
  have HSE := Kept.mk hse
  have HST := Kept.mk hst
  have K6 := Kept.mk hx6
  have K10 := Kept.mk hx10
  have K11 := Kept.mk hx11
  have HB := Kept.mk hb
  clear hm hch hse hst hx6 hx10 hx11 hb M0 C0 T0 Q0 X10 X11 XP HS
  have hkw : w6.heap.size < wr.heap.size := (Array.getElem?_eq_some_iff.1 K6.out).1
  have hk11 : N9 + 1 < wr.heap.size := (Array.getElem?_eq_some_iff.1 K11.out).1
  have HWw : Kept (Below w.heap.size w wr) := ⟨WL.out.trans (HB.out.mono (by omega))⟩
  by_cases hlt : k < wk.length ∧ k < 60
  ·obtain ⟨hn1, hn2⟩ := hlt
   have hq1 : decide (((k : Nat) : Int) < (wk.length : Int)) = true := by simpa using hn1
   have hq2 : decide (((k : Nat) : Int) < 60) = true := by simp; omega
   have wn : IntKind.i64.wrap (((k : Nat) : Int) + 1) = ((k : Nat) : Int) + 1 := IntWalk.i64_in _ (by omega)
   have hF := inv_fit HM.out.ok HM.out.inv (Nat.le_trans hk (by decide)) HM.out.ll
   have HF := Kept.mk hF
   have hAll := all_ref (⟨pW, pwin, pfuel, pr0, pr1, pr2, pr3, .slice pmA ml.length pmC, .slice plA plN plC, pA, pN, pC⟩ : Prg) il c m wr HM.out.pi HPM.out.W HM.out.cf hF.bl hF.ml hF.rl
   obtain ⟨lB, lO, e4, hlb, hle⟩ := RdI.at_ HR4.out hn1
   subst e4
   have hlb2 : lB < wr.heap.size := by have := HWw.out.size; omega
   have HLE := Kept.mk ((HWw.out.cell (p := ⟨lB, lO + k, none⟩) hlb).trans hle)
   clear hF hle
   obtain ⟨⟨c0, c1, c2, c3, ⟨cmA, cmN, cmC⟩, ⟨ckA, ckN, ckC⟩, cp⟩, ⟨cbA, cbN, cbC⟩, ⟨cqA, cqN, cqC⟩, cf⟩ := c
   have Y6 := fun j => cell_of_row wr w6.heap.size j _ _ _ K6.out
   have Y10 := fun j => cell_of_row wr N9 j _ _ _ K10.out
   simp only [Prg.cs] at Y6
   simp only [Cnf.cs] at Y10
   go_wp2_with fail
   refine hAll.mono ?_
   rintro en w2 ⟨dv, rfl, hd, b2⟩
   obtain ⟨dA, dC, rfl, hdc, rd⟩ := hd.shape
   clear Y6 Y10 hAll
   have HALL := Kept.mk (fun (d : Dir) (h : d ∈ allOf pW pwin il m) => h)
   generalize hds : allOf pW pwin il m = ds at rd hdc hd
   have K6 := Kept.mk (q01 K6.out b2)
   have K10 := Kept.mk (q01 K10.out b2)
   have K11 := Kept.mk (q01 K11.out b2)
   have HM := Kept.mk (HM.out.past b2)
   have HST := Kept.mk (HST.out.past b2)
   have HLE := Kept.mk ((b2.cell (p := ⟨lB, lO + k, none⟩) hlb2).trans HLE.out)
   have HB := Kept.mk (HB.out.trans (b2.mono (by omega)))
   have HWw := Kept.mk (HWw.out.trans (b2.mono HWw.out.size))
   have hs2 : wr.heap.size ≤ w2.heap.size := b2.size
   have HRD := Kept.mk rd
   clear hd b2 rd hdc
   by_cases hz : ds.length = 0
   ·have hz' : ((ds.length : Int) == 0) = true := by simp [hz]
    clear hz hds
    go_wp2_with fail
    refine (HAW.out _).mono ?_
    rintro en w14 ⟨rfl, b14⟩
    have WX := Kept.mk (HWw.out.trans (b14.mono (by have := (HWw.out).size; omega)))
    clear b14
    go_wp2_with fail
    go_ret
    exact ⟨rfl, WX.out⟩
   ·obtain ⟨hix, hpe, hpm⟩ := pick_mem ds wk[k] hz
    have hpn := pick_num wk[k] ds.length hz
    have hand := i64_and65535 wk[k]
    generalize pickIx wk[k] ds.length = ix at *
    generalize wk[k] % 65536 = M at *
    generalize hg0 : wk[k] = wkk at *
    have hz' : ((ds.length : Int) == 0) = false := by simp [hz]
    have hne : (ds.length : Int) ≠ 0 := by omega
    have hixi : (ix : Int) < (ds.length : Int) := by omega
    obtain ⟨dB, dO, e5, hdB, hdel⟩ := RdD.at_ HRD.out hix
    subst e5
    have yl := HLE.out
    have yd0 := hdel 0 _ rfl
    have yd1 := hdel 1 _ rfl
    rw [Nat.add_zero] at yd0
    have HIN : Kept (ds[ix] ∈ allOf pW pwin il m) := ⟨by rw [hds]; exact hpm⟩
    clear hds hpe hpm hdel HRD hg0 hz
    generalize hdx : ds[ix] = dx at *
    clear hdx
    go_upto_region 11 with (fail)
    have bd := q00 w2 (.cells #[.int .i64 dx.kind, .int .i64 dx.n] 71)
    have K6 := Kept.mk (q01 K6.out bd)
    have K10 := Kept.mk (q01 K10.out bd)
    have K11 := Kept.mk (q01 K11.out bd)
    have KD := Kept.mk (heap_alloc_new w2 (.cells #[.int .i64 dx.kind, .int .i64 dx.n] 71))
    have HM := Kept.mk (HM.out.past bd)
    have HST := Kept.mk (HST.out.past bd)
    have HB := Kept.mk (HB.out.trans (bd.mono (by omega)))
    have HWw := Kept.mk (HWw.out.trans (bd.mono HWw.out.size))
    have hs3 : w2.heap.size + 1 ≤ (w2.alloc (.cells #[.int .i64 dx.kind, .int .i64 dx.n] 71)).heap.size := by simp
    clear bd yl yd0 yd1 hand hpn hne hixi hz' hix hdB HLE
    generalize w2.alloc (.cells #[.int .i64 dx.kind, .int .i64 dx.n] 71) = w3 at *
    obtain ⟨SD, hSD⟩ : ∃ S, w2.heap.size = S := ⟨_, rfl⟩
    rw [hSD] at KD hs3 hs2 ⊢
    clear hSD
    have Y6 := fun j => cell_of_row w3 w6.heap.size j _ _ _ K6.out
    have Y10 := fun j => cell_of_row w3 N9 j _ _ _ K10.out
    have YD := fun j => cell_of_row w3 SD j _ _ _ KD.out
    simp only [Prg.cs] at Y6
    simp only [Cnf.cs] at Y10
    by_cases h4 : dx.kind = 4
    ·obtain ⟨dk, dn⟩ := dx
     dsimp only at YD
     have h4 : dk = 4 := h4
     subst h4
     have hcan : canRetOf il m = true := ret_can HIN.out rfl
     obtain ⟨e, t, hmb, -, -, -⟩ := q2E hcan
     obtain ⟨y0, y1, y2, y3, ⟨ymA, ymN, ymC⟩, ⟨ykA, ykN, ykC⟩, yp⟩ := cs
     have hst4 : stepOf pW il m ⟨4, dn⟩ = retireOf il m := by unfold stepOf; simp only [show ¬ ((4 : Int) = 1) by omega, show ¬ ((4 : Int) = 2) by omega, show ¬ ((4 : Int) = 3) by omega, if_false]
     have HN1 : Kept (Inv pwin il L (k + 1) (retireOf il m)) := ⟨by have := inv_step HPM.out HM.out.inv _ HIN.out; rwa [hst4] at this⟩
     have HN2 : Kept (Chain il (retireOf il m)) := ⟨by have := chain_step HPM.out HM.out.inv HCH.out _ HIN.out; rwa [hst4] at this⟩
     have HN3 : Kept (Sett pW il (retireOf il m)) := ⟨by have := sett_step HPM.out HM.out.inv HSE.out _ HIN.out; rwa [hst4] at this⟩
     have hsq := seq_ret HPM.out HM.out.inv HCH.out HSE.out hcan
     have hpre := pretire_any (⟨pW, pwin, pfuel, pr0, pr1, pr2, pr3, .slice pmA ml.length pmC, .slice plA plN plC, pA, pN, pC⟩ : Prg) il ⟨⟨c0, c1, c2, c3, ⟨cmA, cmN, cmC⟩, ⟨ckA, ckN, ckC⟩, cp⟩, ⟨cbA, cbN, cbC⟩, ⟨cqA, cqN, cqC⟩, cf⟩ m w3 HM.out.pi HM.out.cf HF.out.ml HF.out.sl HF.out.bl HF.out.rl HF.out.sm HF.out.rt
     rw [show retQ il m = some (retireOf il m) by unfold retQ; rw [if_pos hcan]] at hpre
     have hpc0 : (seqSt m).pc = e.pc := by unfold seqSt hdPc; rw [hmb]; rfl
     have hpcb := (HF.out.rt hcan e t hmb).2.2.1
     have hyp : yp = e.pc := HST.out.st.pc.trans hpc0
     subst hyp
     obtain ⟨eb, eo, eA, heb, hel⟩ := HM.out.cf.buf.r.el (k := 0) (by rw [hmb]; simp)
     simp only [Nat.zero_mul, Nat.add_zero] at hel
     have hge : m.buf[0]'(by rw [hmb]; simp) = e := by simp [hmb]
     rw [hge] at hel
     have eA : cbA = some ⟨eb, eo, none⟩ := eA
     subst eA
     have hbn0 : 0 < cbN := by have h := HM.out.cf.buf.n; have h : cbN = m.buf.length := h; rw [h, hmb]; simp
     have HSQ : Kept (∀ w1, PIs w1 (⟨pW, pwin, pfuel, pr0, pr1, pr2, pr3, .slice pmA ml.length pmC, .slice plA plN plC, pA, pN, pC⟩ : Prg) il → StAll w1 ⟨y0, y1, y2, y3, ⟨ymA, ymN, ymC⟩, ⟨ykA, ykN, ykC⟩, e.pc⟩ (seqSt m) → Calls Try.prog 39 #[Prg.v (⟨pW, pwin, pfuel, pr0, pr1, pr2, pr3, .slice pmA ml.length pmC, .slice plA plN plC, pA, pN, pC⟩ : Prg), Stt.v ⟨y0, y1, y2, y3, ⟨ymA, ymN, ymC⟩, ⟨ykA, ykN, ykC⟩, e.pc⟩] w1 (SeqPost (seqSt (retireOf il m), (retireOf il m).fin) w1)) := ⟨fun w1 h1 h2 => by
      have := seq_any (⟨pW, pwin, pfuel, pr0, pr1, pr2, pr3, .slice pmA ml.length pmC, .slice plA plN plC, pA, pN, pC⟩ : Prg) il ⟨y0, y1, y2, y3, ⟨ymA, ymN, ymC⟩, ⟨ykA, ykN, ykC⟩, e.pc⟩ (seqSt m) w1 h1 HPM.out.W HPM.out.ok h2 HF.out.ml HF.out.sl (by rw [hpc0]; exact hpcb)
      rw [hsq] at this
      exact this⟩
     have HEL := Kept.mk hel
     clear hcan hst4 hsq hmb hge hel hpcb hpc0
     generalize retireOf il m = m1 at *
     have hfp : m1.fin ≠ 0 → (seqSt m1).pc = m1.st.pc := fun h => by
      rcases HN1.out.fin with q | ⟨_, q, _⟩
      ·exact absurd q h
      ·unfold seqSt hdPc; rw [q]; rfl
     have HFP := Kept.mk hfp
     clear hfp
     go_wp2_with fail
     refine hpre.mono ?_
     rintro en w4 ⟨cx, rfl, hcx, b4⟩
     have HCI := Kept.mk hcx.is
     have HCA : Kept (CfTy w4 cx) := ⟨⟨Tag.of_own hcx.st.mem, Tag.of_own hcx.st.stack, Tag.of_own hcx.buf, Tag.of_own hcx.rsb⟩⟩
     obtain ⟨⟨x0, x1, x2, x3, ⟨xmA, xmN, xmC⟩, ⟨xkA, xkN, xkC⟩, xp⟩, ⟨xbA, xbN, xbC⟩, ⟨xqA, xqN, xqC⟩, xf⟩ := cx
     have hxf : xf = m1.fin := HCI.out.fin
     subst hxf
     have heb4 : eb < w4.heap.size := by have := b4.size; omega
     have HEL := Kept.mk ((CellsAt.kept HEL.out heb).out w4 b4)
     have HST := Kept.mk (HST.out.past b4)
     have HB := Kept.mk (HB.out.trans (b4.mono (by omega)))
     have HWw := Kept.mk (HWw.out.trans (b4.mono HWw.out.size))
     have hs4 : w3.heap.size ≤ w4.heap.size := b4.size
     have K6 := Kept.mk (q01 K6.out b4)
     have K10 := Kept.mk (q01 K10.out b4)
     have K11 := Kept.mk (q01 K11.out b4)
     clear hpre hcx Y6 Y10 YD b4 KD
     go_upto_region 14 with (fail)
     have bX := q00 w4 (.cells #[.int .i64 (x0), .int .i64 (x1), .int .i64 (x2), .int .i64 (x3), .slice xmA xmN xmC, .slice xkA xkN xkC, .int .i64 xp, .slice xbA xbN xbC, .slice xqA xqN xqC, .int .i64 (m1.fin)] 41)
     have K6 := Kept.mk (q01 K6.out bX)
     have K10 := Kept.mk (q01 K10.out bX)
     have K11 := Kept.mk (q01 K11.out bX)
     have HCI := Kept.mk (HCI.out.past bX)
     have HCA := Kept.mk (HCA.out.past bX)
     have HEL := Kept.mk ((CellsAt.kept HEL.out (by omega)).out _ bX)
     have HST := Kept.mk (HST.out.past bX)
     have HB := Kept.mk (HB.out.trans (bX.mono (by omega)))
     have K15 : Kept ((w4.alloc (.cells #[.int .i64 (x0), .int .i64 (x1), .int .i64 (x2), .int .i64 (x3), .slice xmA xmN xmC, .slice xkA xkN xkC, .int .i64 xp, .slice xbA xbN xbC, .slice xqA xqN xqC, .int .i64 (m1.fin)] 41)).heap[w4.heap.size]? = some (.cells (Cnf.cs ⟨⟨x0, x1, x2, x3, ⟨xmA, xmN, xmC⟩, ⟨xkA, xkN, xkC⟩, xp⟩, ⟨xbA, xbN, xbC⟩, ⟨xqA, xqN, xqC⟩, m1.fin⟩).toArray 41 (0, 0))) := ⟨heap_alloc_new w4 (.cells #[.int .i64 (x0), .int .i64 (x1), .int .i64 (x2), .int .i64 (x3), .slice xmA xmN xmC, .slice xkA xkN xkC, .int .i64 xp, .slice xbA xbN xbC, .slice xqA xqN xqC, .int .i64 (m1.fin)] 41)⟩
     have hs5 : w4.heap.size + 1 ≤ (w4.alloc (.cells #[.int .i64 (x0), .int .i64 (x1), .int .i64 (x2), .int .i64 (x3), .slice xmA xmN xmC, .slice xkA xkN xkC, .int .i64 xp, .slice xbA xbN xbC, .slice xqA xqN xqC, .int .i64 (m1.fin)] 41)).heap.size := by simp
     clear bX
     generalize w4.alloc (.cells #[.int .i64 (x0), .int .i64 (x1), .int .i64 (x2), .int .i64 (x3), .slice xmA xmN xmC, .slice xkA xkN xkC, .int .i64 xp, .slice xbA xbN xbC, .slice xqA xqN xqC, .int .i64 (m1.fin)] 41) = w5 at *
     obtain ⟨S15, hS15⟩ : ∃ S, w4.heap.size = S := ⟨_, rfl⟩
     rw [hS15] at K15 hs5 hs4 heb4 ⊢
     clear hS15
     have Y6 := fun j => cell_of_row w5 w6.heap.size j _ _ _ K6.out
     have Y11 := fun j => cell_of_row w5 (N9 + 1) j _ _ _ K11.out
     simp only [Prg.cs] at Y6
     simp only [Stt.cs] at Y11
     go_wp2_with fail
     refine (HSQ.out w5 (HPI.out _ HB.out) HST.out).mono ?_
     rintro en w7x ⟨ct, ov, rfl, hct, b7x⟩
     have K6 := Kept.mk (q01 K6.out b7x)
     have K10 := Kept.mk (q01 K10.out b7x)
     have K11 := Kept.mk (q01 K11.out b7x)
     have K15 := Kept.mk (q01 K15.out b7x)
     have HCI := Kept.mk (HCI.out.past b7x)
     have HCA := Kept.mk (HCA.out.past b7x)
     have HEL := Kept.mk ((CellsAt.kept HEL.out (by omega)).out _ b7x)
     have HB := Kept.mk (HB.out.trans (b7x.mono (by omega)))
     have HCT := Kept.mk hct
     obtain ⟨t0, t1, t2, t3, ⟨tmA, tmN, tmC⟩, ⟨tkA, tkN, tkC⟩, tp⟩ := ct
     have hs7 : w5.heap.size ≤ w7x.heap.size := b7x.size
     clear Y6 Y11 hct HSQ b7x
     go_upto_region 15 with (fail)
     have bX := q00 w7x (.cells #[.int .i64 (t0), .int .i64 (t1), .int .i64 (t2), .int .i64 (t3), .slice tmA tmN tmC, .slice tkA tkN tkC, .int .i64 (tp)] 36)
     have K6 := Kept.mk (q01 K6.out bX)
     have K10 := Kept.mk (q01 K10.out bX)
     have K11 := Kept.mk (q01 K11.out bX)
     have K15 := Kept.mk (q01 K15.out bX)
     have HCI := Kept.mk (HCI.out.past bX)
     have HCA := Kept.mk (HCA.out.past bX)
     have HCT := Kept.mk (HCT.out.past bX)
     have HEL := Kept.mk ((CellsAt.kept HEL.out (by omega)).out _ bX)
     have HB := Kept.mk (HB.out.trans (bX.mono (by omega)))
     have K17 : Kept ((w7x.alloc (.cells #[.int .i64 (t0), .int .i64 (t1), .int .i64 (t2), .int .i64 (t3), .slice tmA tmN tmC, .slice tkA tkN tkC, .int .i64 (tp)] 36)).heap[w7x.heap.size]? = some (.cells (Stt.cs ⟨t0, t1, t2, t3, ⟨tmA, tmN, tmC⟩, ⟨tkA, tkN, tkC⟩, tp⟩).toArray 36 (0, 0))) := ⟨heap_alloc_new w7x (.cells #[.int .i64 (t0), .int .i64 (t1), .int .i64 (t2), .int .i64 (t3), .slice tmA tmN tmC, .slice tkA tkN tkC, .int .i64 (tp)] 36)⟩
     have hs8 : w7x.heap.size + 1 ≤ (w7x.alloc (.cells #[.int .i64 (t0), .int .i64 (t1), .int .i64 (t2), .int .i64 (t3), .slice tmA tmN tmC, .slice tkA tkN tkC, .int .i64 (tp)] 36)).heap.size := by simp
     clear bX
     generalize w7x.alloc (.cells #[.int .i64 (t0), .int .i64 (t1), .int .i64 (t2), .int .i64 (t3), .slice tmA tmN tmC, .slice tkA tkN tkC, .int .i64 (tp)] 36) = w8x at *
     obtain ⟨S17, hS17⟩ : ∃ S, w7x.heap.size = S := ⟨_, rfl⟩
     rw [hS17] at K17 hs8 hs7 ⊢
     clear hS17
     have HX15 := q24 K15.out
     have HX10 := q24 K10.out
     have HX11 := q24 K11.out
     have HXE := HEL.out.kept (show eb < w8x.heap.size by omega)
     have hff : ((m1.fin) != (m1.fin)) = false := by simp
     have hee : ((e.pc) != (e.pc)) = false := by simp
     refine q1E (w8x.heap.size) (G := fun _ => True) (ts := [
       .is (Value.bool true),
       .is (Value.bool false),
       .is (Value.bool false),
       .is (Value.pointer (some ⟨S15, 9, none⟩)),
       .is (Value.int .i64 (m1.fin)),
       .is (Value.int .i64 (m1.fin)),
       .is (Value.bool false),
       .is (Value.bool false),
       .is (Value.bool false),
       .is (Value.pointer (some ⟨N9, 7, none⟩)),
       .is (Value.slice ((some ⟨eb, eo, none⟩)) cbN cbC),
       .is (Value.pointer (some ⟨eb, eo, none⟩)),
       .is (Value.pointer (some ⟨eb, eo, none⟩)),
       .is (Value.int .i64 (e.pc)),
       .is (Value.pointer (some ⟨N9 + 1, 6, none⟩)),
       .is (Value.int .i64 (e.pc)),
       .is (Value.bool false),
       .is (Value.bool false)])
      (fin := []) (cs := []) (by kernel_rfl) rfl (by kernel_rfl) (by kernel_rfl)
      ⟨trivial, trivial, trivial, trivial, trivial, trivial, trivial, trivial, trivial, trivial, trivial, trivial, trivial, trivial, trivial, trivial, trivial, trivial, trivial⟩ (fun _ _ _ _ => trivial) (by simp) (by simp) trivial
      ⟨?_, ?_, ?_, ?_, ?_, ?_, ?_, ?_, ?_, ?_, ?_, ?_, ?_, ?_, ?_, ?_, ?_, ?_, trivial⟩ ?_
     ·intro vals w1 hB _ _
      refine q02 rfl ?_ (q04 rfl)
      kernel_rfl
     ·intro vals w1 hB _ _
      refine q02 rfl ?_ (q04 rfl)
      kernel_rfl
     ·intro vals w1 hB _ _
      refine q02 rfl ?_ (q04 rfl)
      kernel_rfl
     ·intro vals w1 hB _ _
      refine q26 (by kernel_rfl) ?_ (q04 rfl)
      kernel_rfl
     ·intro vals w1 hB _ _
      refine q26 (by kernel_rfl) ?_ (q04 rfl)
      exact q0A rfl (by kernel_rfl) ((HX15.out w1 hB) 9 _ rfl) Try.underlying3 rfl
     ·intro vals w1 hB _ _
      refine q26 (by kernel_rfl) ?_ (q04 rfl)
      kernel_rfl
     ·intro vals w1 hB _ _
      refine q26 (by kernel_rfl) ?_ (q04 rfl)
      exact Eq.trans (b := .ok (.value (.bool ((m1.fin) != (m1.fin)))) w1) (by kernel_rfl) (by rw [hff])
     ·intro vals w1 hB _ _
      refine q02 rfl ?_ (q04 rfl)
      kernel_rfl
     ·intro vals w1 hB _ _
      refine q02 rfl ?_ (q04 rfl)
      kernel_rfl
     ·intro vals w1 hB _ _
      refine q26 (by kernel_rfl) ?_ (q04 rfl)
      kernel_rfl
     ·intro vals w1 hB _ _
      refine q26 (by kernel_rfl) ?_ (q04 rfl)
      exact q0A rfl (by kernel_rfl) ((HX10.out w1 hB) 7 _ rfl) Try.underlying39 rfl
     ·intro vals w1 hB _ _
      refine q26 (by kernel_rfl) ?_ (q04 rfl)
      exact Eq.trans (q1C (b := eb) (off := eo) (size := 8) (k := 0) (n := cbN) (c := cbC) rfl (by kernel_rfl) (by kernel_rfl) Try.underlying39 (by kernel_rfl) hbn0) rfl
     ·intro vals w1 hB _ _
      refine q26 (by kernel_rfl) ?_ (q04 rfl)
      kernel_rfl
     ·intro vals w1 hB _ _
      refine q26 (by kernel_rfl) ?_ (q04 rfl)
      exact q0A rfl (by kernel_rfl) ((HXE.out w1 hB) 0 _ rfl) Try.underlying3 rfl
     ·intro vals w1 hB _ _
      refine q26 (by kernel_rfl) ?_ (q04 rfl)
      kernel_rfl
     ·intro vals w1 hB _ _
      refine q26 (by kernel_rfl) ?_ (q04 rfl)
      exact q0A rfl (by kernel_rfl) ((HX11.out w1 hB) 6 _ rfl) Try.underlying3 rfl
     ·intro vals w1 hB _ _
      refine q26 (by kernel_rfl) ?_ (q04 rfl)
      exact Eq.trans (b := .ok (.value (.bool ((e.pc) != (e.pc)))) w1) (by kernel_rfl) (by rw [hee])
     ·intro vals w1 hB _ _
      refine q02 rfl ?_ (q04 rfl)
      kernel_rfl
     intro vals w9x b9x _ hr
     clear hr
     simp only [fillT, Tell.is, Act.put, List.setIfInBounds_toArray, List.set_cons_zero, List.set_cons_succ]
     have K6 := Kept.mk (q01 K6.out b9x)
     have K10 := Kept.mk (q01 K10.out b9x)
     have K11 := Kept.mk (q01 K11.out b9x)
     have K15 := Kept.mk (q01 K15.out b9x)
     have K17 := Kept.mk (q01 K17.out b9x)
     have HCI := Kept.mk (HCI.out.past b9x)
     have HCA := Kept.mk (HCA.out.past b9x)
     have HCT := Kept.mk (HCT.out.past b9x)
     have HB := Kept.mk (HB.out.trans (b9x.mono (by omega)))
     have hs9 : w8x.heap.size ≤ w9x.heap.size := b9x.size
     clear HX15 HX10 HX11 HXE hff hee b9x
     have hN15 : N9 + 1 < S15 := by omega
     have hN17 : N9 + 1 < S17 := by omega
     have hne1 : S15 ≠ S17 := by omega
     have hne2 : S17 ≠ S15 := by omega
     have htp : tp = (seqSt m1).pc := HCT.out.st.pc
     have hxp : xp = m1.st.pc := HCI.out.st.pc
     have HSM : Kept (∀ w1, CfIs w1 ⟨⟨x0, x1, x2, x3, ⟨xmA, xmN, xmC⟩, ⟨xkA, xkN, xkC⟩, xp⟩, ⟨xbA, xbN, xbC⟩, ⟨xqA, xqN, xqC⟩, m1.fin⟩ m1 → StAll w1 ⟨t0, t1, t2, t3, ⟨tmA, tmN, tmC⟩, ⟨tkA, tkN, tkC⟩, tp⟩ (seqSt m1) → Calls Try.prog 40 #[Stt.v ⟨x0, x1, x2, x3, ⟨xmA, xmN, xmC⟩, ⟨xkA, xkN, xkC⟩, xp⟩, Stt.v ⟨t0, t1, t2, t3, ⟨tmA, tmN, tmC⟩, ⟨tkA, tkN, tkC⟩, xp⟩] w1 fun en w' => en = .returned (.bool true) ∧ Below w1.heap.size w1 w') := ⟨fun w1 h1 h2 => by
      have hml : m1.st.mem.length ≤ 1000 := by rw [HN1.out.ml]; exact HM.out.ll
      have hsl : m1.st.stack.length ≤ 1000 := by have := HN1.out.sl; omega
      have := same7 ⟨x0, x1, x2, x3, ⟨xmA, xmN, xmC⟩, ⟨xkA, xkN, xkC⟩, xp⟩ ⟨t0, t1, t2, t3, ⟨tmA, tmN, tmC⟩, ⟨tkA, tkN, tkC⟩, xp⟩ m1.st m1.st w1 h1.st ⟨h2.st.r0, h2.st.r1, h2.st.r2, h2.st.r3, h2.st.mem, h2.st.stack, hxp⟩ hml hsl hml hsl
      rw [decide_eq_true rfl] at this
      exact this⟩
     have hqt : m1.fin ≠ 0 → tp = xp := fun h => by rw [htp, hxp]; exact HFP.out h
     have HQT := Kept.mk hqt
     clear htp hxp hqt HFP
     have Y15 := fun j => cell_of_row w9x S15 j _ _ _ K15.out
     have Y17 := fun j => cell_of_row w9x S17 j _ _ _ K17.out
     have F17 := fun j => frozen_of_row w9x S17 j _ _ K17.out
     simp only [Cnf.cs] at Y15
     simp only [Stt.cs] at Y17
     go_wp2_with fail
     have hg6 := q08 w9x ⟨S17, 6, none⟩ (.int .i64 xp)
     have HCAB := (CfAll.of HCI.out HCA.out).row (q0F (j := 6) K17.out (.int .i64 xp)) (by decide) (by decide)
     have HCI := Kept.mk (HCAB.cf HCI.out)
     have HCA := Kept.mk HCAB.ty
     have HCT := Kept.mk (HCT.out.row (q0F (j := 6) K17.out (.int .i64 xp)) (by decide))
     have K6 := Kept.mk (q03 (p := ⟨S17, 6, none⟩) (u := .int .i64 xp) K6.out (by show S17 ≠ w6.heap.size; omega))
     have K10 := Kept.mk (q03 (p := ⟨S17, 6, none⟩) (u := .int .i64 xp) K10.out (by show S17 ≠ N9; omega))
     have K11 := Kept.mk (q03 (p := ⟨S17, 6, none⟩) (u := .int .i64 xp) K11.out (by show S17 ≠ N9 + 1; omega))
     have K15 := Kept.mk (q03 (p := ⟨S17, 6, none⟩) (u := .int .i64 xp) K15.out (by show S17 ≠ S15; omega))
     have HB := Kept.mk (HB.out.setCell (p := ⟨S17, 6, none⟩) (show N9 ≤ S17 by omega) (.int .i64 xp))
     clear HCAB
     have K17 : Kept ((w9x.setCell ⟨S17, 6, none⟩ (.int .i64 xp)).heap[S17]? = some (.cells (Stt.cs ⟨t0, t1, t2, t3, ⟨tmA, tmN, tmC⟩, ⟨tkA, tkN, tkC⟩, xp⟩).toArray 36 (0, 0))) := ⟨heap_setCell_same w9x S17 6 _ _ (.int .i64 xp) K17.out⟩
     refine (HSM.out _ HCI.out HCT.out).mono ?_
     rintro en wA ⟨rfl, bA⟩
     have hsS : w9x.heap.size ≤ (w9x.setCell ⟨S17, 6, none⟩ (.int .i64 xp)).heap.size := by simp [World.setCell]
     have K6 := Kept.mk (q01 K6.out bA)
     have K10 := Kept.mk (q01 K10.out bA)
     have K11 := Kept.mk (q01 K11.out bA)
     have K15 := Kept.mk (q01 K15.out bA)
     have K17 := Kept.mk (q01 K17.out bA)
     have HCI := Kept.mk (HCI.out.past bA)
     have HCA := Kept.mk (HCA.out.past bA)
     have HCT := Kept.mk (HCT.out.past bA)
     have HB := Kept.mk (HB.out.trans (bA.mono (by omega)))
     clear Y15 Y17 F17 hg6 HSM
     have hsA : (w9x.setCell ⟨S17, 6, none⟩ (.int .i64 xp)).heap.size ≤ wA.heap.size := bA.size
     have hsA2 : w9x.heap.size ≤ wA.heap.size := by simp [World.setCell] at hsA; omega
     clear bA hsA hsS
     have Y15 := fun j => cell_of_row wA S15 j _ _ _ K15.out
     have Y17 := fun j => cell_of_row wA S17 j _ _ _ K17.out
     have F17 := fun j => frozen_of_row wA S17 j _ _ K17.out
     simp only [Cnf.cs] at Y15
     simp only [Stt.cs] at Y17
     have key : (m1.fin != 0) = false ∨ (m1.fin != 0) = true ∧ (tp != xp) = false := by
      by_cases h : m1.fin = 0
      ·exact .inl (by simp [h])
      ·exact .inr ⟨by simp [h], by simp [HQT.out h]⟩
     rcases key with hq1 | ⟨hq1, hq2⟩
     all_goals
      clear HQT
      go_upto_region 22 with (fail)
      have HCAB := (CfAll.of HCI.out HCA.out).row (q0F (j := 6) K17.out (.int .i64 tp)) (by decide) (by decide)
      have HCI := Kept.mk (HCAB.cf HCI.out)
      have HCA := Kept.mk HCAB.ty
      have HCT := Kept.mk (HCT.out.row (q0F (j := 6) K17.out (.int .i64 tp)) (by decide))
      have K6 := Kept.mk (q03 (p := ⟨S17, 6, none⟩) (u := .int .i64 tp) K6.out (by show S17 ≠ w6.heap.size; omega))
      have K10 := Kept.mk (q03 (p := ⟨S17, 6, none⟩) (u := .int .i64 tp) K10.out (by show S17 ≠ N9; omega))
      have K11 := Kept.mk (q03 (p := ⟨S17, 6, none⟩) (u := .int .i64 tp) K11.out (by show S17 ≠ N9 + 1; omega))
      have K15 := Kept.mk (q03 (p := ⟨S17, 6, none⟩) (u := .int .i64 tp) K15.out (by show S17 ≠ S15; omega))
      have HB := Kept.mk (HB.out.setCell (p := ⟨S17, 6, none⟩) (show N9 ≤ S17 by omega) (.int .i64 tp))
      clear HCAB
      have K17 : Kept ((wA.setCell ⟨S17, 6, none⟩ (.int .i64 tp)).heap[S17]? = some (.cells (Stt.cs ⟨t0, t1, t2, t3, ⟨tmA, tmN, tmC⟩, ⟨tkA, tkN, tkC⟩, tp⟩).toArray 36 (0, 0))) := ⟨heap_setCell_same wA S17 6 _ _ (.int .i64 tp) K17.out⟩
      have hsB : wA.heap.size ≤ (wA.setCell ⟨S17, 6, none⟩ (.int .i64 tp)).heap.size := by simp [World.setCell]
      clear Y15 Y17 F17
      generalize wA.setCell ⟨S17, 6, none⟩ (.int .i64 tp) = wB at *
      have hNB : N9 ≤ wB.heap.size := by omega
      refine q19 (fun done vals w => F22 N9 S15 S17 ⟨⟨c0, c1, c2, c3, ⟨cmA, cmN, cmC⟩, ⟨ckA, ckN, ckC⟩, cp⟩, ⟨some ⟨eb, eo, none⟩, cbN, cbC⟩, ⟨cqA, cqN, cqC⟩, cf⟩ ⟨y0, y1, y2, y3, ⟨ymA, ymN, ymC⟩, ⟨ykA, ykN, ykC⟩, e.pc⟩ ⟨⟨x0, x1, x2, x3, ⟨xmA, xmN, xmC⟩, ⟨xkA, xkN, xkC⟩, xp⟩, ⟨xbA, xbN, xbC⟩, ⟨xqA, xqN, xqC⟩, m1.fin⟩ ⟨t0, t1, t2, t3, ⟨tmA, tmN, tmC⟩, ⟨tkA, tkN, tkC⟩, tp⟩ m1 (seqSt m1) (done 2) (done 3) w) (N9) (G := fun _ => True) (ts := [
        .is (Value.agg #[.int .i64 (x0), .int .i64 (x1), .int .i64 (x2), .int .i64 (x3), .slice xmA xmN xmC, .slice xkA xkN xkC, .int .i64 (xp), .slice xbA xbN xbC, .slice xqA xqN xqC, .int .i64 (m1.fin)]),
        .is (Value.agg #[.int .i64 (t0), .int .i64 (t1), .int .i64 (t2), .int .i64 (t3), .slice tmA tmN tmC, .slice tkA tkN tkC, .int .i64 (tp)]),
        .sets (fun _ _ => True),
        .sets (fun _ _ => True)])
       (fin := []) (cs := [(2, 3), (3, 2)]) ?z0 ?zg (by kernel_rfl) rfl (by kernel_rfl) (by kernel_rfl)
       ⟨trivial, trivial, (fun _ _ _ _ _ => trivial), (fun _ _ _ _ _ => trivial), trivial⟩ (fun _ _ _ _ => trivial) ?cs (by omega) trivial
       ⟨?_, ?_, ?_, ?_, trivial⟩ ?_
      case z0 =>
       show _
       exact F22.start K10.out K11.out K15.out K17.out HCA.out HCI.out HCT.out
      case zg =>
       intro i done vals w1 w2 v hti hni hZ hb
       have hz := hZ
       ·skip
        have hz : F22 N9 S15 S17 ⟨⟨c0, c1, c2, c3, ⟨cmA, cmN, cmC⟩, ⟨ckA, ckN, ckC⟩, cp⟩, ⟨some ⟨eb, eo, none⟩, cbN, cbC⟩, ⟨cqA, cqN, cqC⟩, cf⟩ ⟨y0, y1, y2, y3, ⟨ymA, ymN, ymC⟩, ⟨ykA, ykN, ykC⟩, e.pc⟩ ⟨⟨x0, x1, x2, x3, ⟨xmA, xmN, xmC⟩, ⟨xkA, xkN, xkC⟩, xp⟩, ⟨xbA, xbN, xbC⟩, ⟨xqA, xqN, xqC⟩, m1.fin⟩ ⟨t0, t1, t2, t3, ⟨tmA, tmN, tmC⟩, ⟨tkA, tkN, tkC⟩, tp⟩ m1 (seqSt m1) (done 2) (done 3) w1 := hz
        have h2 : ¬ 2 = i := by rintro rfl; cases hti
        have h3 : ¬ 3 = i := by rintro rfl; cases hti
        exact hz.other h2 h3 hb
      case cs =>
       intro p hp v w1 w2 hG hR hE
       simp only [List.mem_cons, List.not_mem_nil, or_false] at hp
       rcases hp with rfl | rfl
       ·exact hR
       ·exact hR
      ·intro done vals w1 hB _ hZ hni hcl hdn _
       have hz : F22 N9 S15 S17 ⟨⟨c0, c1, c2, c3, ⟨cmA, cmN, cmC⟩, ⟨ckA, ckN, ckC⟩, cp⟩, ⟨some ⟨eb, eo, none⟩, cbN, cbC⟩, ⟨cqA, cqN, cqC⟩, cf⟩ ⟨y0, y1, y2, y3, ⟨ymA, ymN, ymC⟩, ⟨ykA, ykN, ykC⟩, e.pc⟩ ⟨⟨x0, x1, x2, x3, ⟨xmA, xmN, xmC⟩, ⟨xkA, xkN, xkC⟩, xp⟩, ⟨xbA, xbN, xbC⟩, ⟨xqA, xqN, xqC⟩, m1.fin⟩ ⟨t0, t1, t2, t3, ⟨tmA, tmN, tmC⟩, ⟨tkA, tkN, tkC⟩, tp⟩ m1 (seqSt m1) (done 2) (done 3) w1 := hZ
       have hx15 := CellsAt.of_block hz.x
       refine q02 rfl ?_ ⟨q04 rfl, noturn rfl⟩
       exact q09 rfl (b := S15) (off := 0) (by kernel_rfl) (Cnf.cs ⟨⟨x0, x1, x2, x3, ⟨xmA, xmN, xmC⟩, ⟨xkA, xkN, xkC⟩, xp⟩, ⟨xbA, xbN, xbC⟩, ⟨xqA, xqN, xqC⟩, m1.fin⟩) hx15 Try.underlying41 rfl (by kernel_rfl)
      ·intro done vals w1 hB _ hZ hni hcl hdn _
       have hz : F22 N9 S15 S17 ⟨⟨c0, c1, c2, c3, ⟨cmA, cmN, cmC⟩, ⟨ckA, ckN, ckC⟩, cp⟩, ⟨some ⟨eb, eo, none⟩, cbN, cbC⟩, ⟨cqA, cqN, cqC⟩, cf⟩ ⟨y0, y1, y2, y3, ⟨ymA, ymN, ymC⟩, ⟨ykA, ykN, ykC⟩, e.pc⟩ ⟨⟨x0, x1, x2, x3, ⟨xmA, xmN, xmC⟩, ⟨xkA, xkN, xkC⟩, xp⟩, ⟨xbA, xbN, xbC⟩, ⟨xqA, xqN, xqC⟩, m1.fin⟩ ⟨t0, t1, t2, t3, ⟨tmA, tmN, tmC⟩, ⟨tkA, tkN, tkC⟩, tp⟩ m1 (seqSt m1) (done 2) (done 3) w1 := hZ
       have hx17 := CellsAt.of_block hz.t
       refine q02 rfl ?_ ⟨q04 rfl, noturn rfl⟩
       exact q09 rfl (b := S17) (off := 0) (by kernel_rfl) (Stt.cs ⟨t0, t1, t2, t3, ⟨tmA, tmN, tmC⟩, ⟨tkA, tkN, tkC⟩, tp⟩) hx17 Try.underlying36 rfl (by kernel_rfl)
      ·intro done vals w1 hB _ hZ hni hcl hdn _
       have hz : F22 N9 S15 S17 ⟨⟨c0, c1, c2, c3, ⟨cmA, cmN, cmC⟩, ⟨ckA, ckN, ckC⟩, cp⟩, ⟨some ⟨eb, eo, none⟩, cbN, cbC⟩, ⟨cqA, cqN, cqC⟩, cf⟩ ⟨y0, y1, y2, y3, ⟨ymA, ymN, ymC⟩, ⟨ykA, ykN, ykC⟩, e.pc⟩ ⟨⟨x0, x1, x2, x3, ⟨xmA, xmN, xmC⟩, ⟨xkA, xkN, xkC⟩, xp⟩, ⟨xbA, xbN, xbC⟩, ⟨xqA, xqN, xqC⟩, m1.fin⟩ ⟨t0, t1, t2, t3, ⟨tmA, tmN, tmC⟩, ⟨tkA, tkN, tkC⟩, tp⟩ m1 (seqSt m1) (done 2) (done 3) w1 := hZ
       have hx := hz.a
       rw [hni, if_neg (by decide)] at hx
       obtain ⟨w2, hr2, hw2, hg2⟩ := q1B (P := Try.prog) (ty := 41) (Cnf.v ⟨⟨x0, x1, x2, x3, ⟨xmA, xmN, xmC⟩, ⟨xkA, xkN, xkC⟩, xp⟩, ⟨xbA, xbN, xbC⟩, ⟨xqA, xqN, xqC⟩, m1.fin⟩) (Cnf.cs ⟨⟨x0, x1, x2, x3, ⟨xmA, xmN, xmC⟩, ⟨xkA, xkN, xkC⟩, xp⟩, ⟨xbA, xbN, xbC⟩, ⟨xqA, xqN, xqC⟩, m1.fin⟩) rfl hx rfl rfl (by kernel_rfl)
       refine q14 (w' := w2) rfl ?_ ⟨q15 rfl (hB.grown hg2 (by have := hB.size; omega) (fun k hk => by injection hk with hk; omega)) trivial hg2.size trivial, fun _ => hz.sa hg2 hw2 hN15 hN17⟩
       exact q13 rfl (by kernel_rfl) (by kernel_rfl) hr2
      ·intro done vals w1 hB _ hZ hni hcl hdn _
       have hz : F22 N9 S15 S17 ⟨⟨c0, c1, c2, c3, ⟨cmA, cmN, cmC⟩, ⟨ckA, ckN, ckC⟩, cp⟩, ⟨some ⟨eb, eo, none⟩, cbN, cbC⟩, ⟨cqA, cqN, cqC⟩, cf⟩ ⟨y0, y1, y2, y3, ⟨ymA, ymN, ymC⟩, ⟨ykA, ykN, ykC⟩, e.pc⟩ ⟨⟨x0, x1, x2, x3, ⟨xmA, xmN, xmC⟩, ⟨xkA, xkN, xkC⟩, xp⟩, ⟨xbA, xbN, xbC⟩, ⟨xqA, xqN, xqC⟩, m1.fin⟩ ⟨t0, t1, t2, t3, ⟨tmA, tmN, tmC⟩, ⟨tkA, tkN, tkC⟩, tp⟩ m1 (seqSt m1) (done 2) (done 3) w1 := hZ
       have hx := hz.b
       rw [hni, if_neg (by decide)] at hx
       obtain ⟨w2, hr2, hw2, hg2⟩ := q1B (P := Try.prog) (ty := 36) (Stt.v ⟨t0, t1, t2, t3, ⟨tmA, tmN, tmC⟩, ⟨tkA, tkN, tkC⟩, tp⟩) (Stt.cs ⟨t0, t1, t2, t3, ⟨tmA, tmN, tmC⟩, ⟨tkA, tkN, tkC⟩, tp⟩) rfl hx rfl rfl (by kernel_rfl)
       refine q14 (w' := w2) rfl ?_ ⟨q15 rfl (hB.grown hg2 (by have := hB.size; omega) (fun k hk => by injection hk with hk; omega)) trivial hg2.size trivial, fun _ => hz.sb hg2 hw2 hN15 hN17⟩
       exact q13 rfl (by kernel_rfl) (by kernel_rfl) hr2
      intro done vals wE bE _ hall hZ hr
      have hz : F22 N9 S15 S17 ⟨⟨c0, c1, c2, c3, ⟨cmA, cmN, cmC⟩, ⟨ckA, ckN, ckC⟩, cp⟩, ⟨some ⟨eb, eo, none⟩, cbN, cbC⟩, ⟨cqA, cqN, cqC⟩, cf⟩ ⟨y0, y1, y2, y3, ⟨ymA, ymN, ymC⟩, ⟨ykA, ykN, ykC⟩, e.pc⟩ ⟨⟨x0, x1, x2, x3, ⟨xmA, xmN, xmC⟩, ⟨xkA, xkN, xkC⟩, xp⟩, ⟨xbA, xbN, xbC⟩, ⟨xqA, xqN, xqC⟩, m1.fin⟩ ⟨t0, t1, t2, t3, ⟨tmA, tmN, tmC⟩, ⟨tkA, tkN, tkC⟩, tp⟩ m1 (seqSt m1) (done 2) (done 3) wE := hZ
      rw [hall 2 (by simp), hall 3 (by simp)] at hz
      clear hr
      simp only [fillT, Tell.is, Act.put, List.setIfInBounds_toArray, List.set_cons_zero, List.set_cons_succ]
      have hb := HB.out.trans bE
      have ha := hz.a
      have hb2 := hz.b
      rw [if_pos rfl] at ha hb2
      go_wp2_with fail
      go_roundw
      case measure => simp [intOf]; omega
      case rel => exact ⟨k + 1, m1, ⟨⟨x0, x1, x2, x3, ⟨xmA, xmN, xmC⟩, ⟨xkA, xkN, xkC⟩, xp⟩, ⟨xbA, xbN, xbC⟩, ⟨xqA, xqN, xqC⟩, m1.fin⟩, ⟨t0, t1, t2, t3, ⟨tmA, tmN, tmC⟩, ⟨tkA, tkN, tkC⟩, tp⟩, by go_num, by omega, ⟨HPI.out _ hb, HPM.out, hz.cf, hz.ty, HN1.out, by omega, HM.out.ll⟩, HN2.out, HN3.out, hz.st, ha, hb2, (bE.block _ hw6).trans K6.out, hb⟩
    ·have k4 : (dx.kind != 4) = true := by simpa using h4
     have hSay := say_any (⟨pW, pwin, pfuel, pr0, pr1, pr2, pr3, .slice pmA ml.length pmC, .slice plA plN plC, pA, pN, pC⟩ : Prg) il ⟨⟨c0, c1, c2, c3, ⟨cmA, cmN, cmC⟩, ⟨ckA, ckN, ckC⟩, cp⟩, ⟨cbA, cbN, cbC⟩, ⟨cqA, cqN, cqC⟩, cf⟩ m dx w3 HM.out.pi HM.out.cf HM.out.ty HPM.out.W (fun y hy => (HPM.out.ok y hy).op) HF.out HIN.out
     have HN1 : Kept (Inv pwin il L (k + 1) (stepOf pW il m dx)) := ⟨inv_step HPM.out HM.out.inv dx HIN.out⟩
     have HN2 : Kept (Chain il (stepOf pW il m dx)) := ⟨chain_step HPM.out HM.out.inv HCH.out dx HIN.out⟩
     have HN3 : Kept (Sett pW il (stepOf pW il m dx)) := ⟨sett_step HPM.out HM.out.inv HSE.out dx HIN.out⟩
     have HN4 : Kept (StAll w3 cs (seqSt (stepOf pW il m dx))) := ⟨by rw [seq_other dx HIN.out h4]; exact HST.out⟩
     clear h4
     go_wp2_with fail
     refine hSay.mono ?_
     rintro en w4 ⟨c1, ov, rfl, hc1, ht1, b4⟩
     generalize stepOf pW il m dx = m1 at *
     have K6 := Kept.mk (q01 K6.out b4)
     have K10 := Kept.mk (q01 K10.out b4)
     have K11 := Kept.mk (q01 K11.out b4)
     have RA := Kept.mk (CfAll.of hc1 ht1)
     have HC1 := Kept.mk hc1
     have HN4 := Kept.mk (HN4.out.past b4)
     have HB := Kept.mk (HB.out.trans (b4.mono (by omega)))
     clear hSay hc1 ht1 Y6 Y10 YD k4
     obtain ⟨⟨x0, x1, x2, x3, ⟨xmA, xmN, xmC⟩, ⟨xkA, xkN, xkC⟩, xp⟩, ⟨xbA, xbN, xbC⟩, ⟨xqA, xqN, xqC⟩, xf⟩ := c1
     dsimp only at RA
     have hs4 : w3.heap.size ≤ w4.heap.size := b4.size
     clear b4
     have Y10 := fun j => cell_of_row w4 N9 j _ _ _ K10.out
     have F10 := fun j => frozen_of_row w4 N9 j _ _ K10.out
     simp only [Cnf.cs] at Y10
     go_wp2_with fail
     go_roundw
     case measure => simp [intOf]; omega
     case rel =>
      have hg := grown10 w4 N9 ⟨⟨x0, x1, x2, x3, ⟨xmA, xmN, xmC⟩, ⟨xkA, xkN, xkC⟩, xp⟩, ⟨xbA, xbN, xbC⟩, ⟨xqA, xqN, xqC⟩, xf⟩
      have ra := RA.out.row ⟨⟨_, K10.out⟩, hg⟩ (by decide) (by decide)
      have wb := below10 (g := N9) ⟨⟨x0, x1, x2, x3, ⟨xmA, xmN, xmC⟩, ⟨xkA, xkN, xkC⟩, xp⟩, ⟨xbA, xbN, xbC⟩, ⟨xqA, xqN, xqC⟩, xf⟩ HB.out (Nat.le_refl _)
      have x4 := q11 ⟨⟨c0, c1, c2, c3, ⟨cmA, cmN, cmC⟩, ⟨ckA, ckN, ckC⟩, cp⟩, ⟨cbA, cbN, cbC⟩, ⟨cqA, cqN, cqC⟩, cf⟩ ⟨⟨x0, x1, x2, x3, ⟨xmA, xmN, xmC⟩, ⟨xkA, xkN, xkC⟩, xp⟩, ⟨xbA, xbN, xbC⟩, ⟨xqA, xqN, xqC⟩, xf⟩ K10.out
      have hp := HN4.out.row ⟨⟨_, K10.out⟩, hg⟩ (by decide)
      dsimp only at ra wb x4 hp
      exact ⟨k + 1, m1, ⟨⟨x0, x1, x2, x3, ⟨xmA, xmN, xmC⟩, ⟨xkA, xkN, xkC⟩, xp⟩, ⟨xbA, xbN, xbC⟩, ⟨xqA, xqN, xqC⟩, xf⟩, cs, by go_num, by omega, ⟨HPI.out _ wb, HPM.out, ra.cf HC1.out, ra.ty, HN1.out, by omega, HM.out.ll⟩, HN2.out, HN3.out, hp, x4, (hg.block _ (by omega) (by intro e; injection e with e; omega)).trans K11.out, (hg.block _ (by omega) (by intro e; injection e with e; omega)).trans K6.out, wb⟩
  ·have Y : (¬ k < wk.length) ∨ (k < wk.length ∧ ¬ k < 60) := by omega
   clear hlt
   rcases Y with hn1 | ⟨hn1, hn2⟩
   ·have hq1 : decide (((k : Nat) : Int) < (wk.length : Int)) = false := by simpa using hn1
    go_wp2_with fail
    refine (HAW.out _).mono ?_
    rintro en w14 ⟨rfl, b14⟩
    have WX := Kept.mk (HWw.out.trans (b14.mono (by have := (HWw.out).size; omega)))
    clear b14
    go_wp2_with fail
    go_ret
    exact ⟨rfl, WX.out⟩
   ·have hq1 : decide (((k : Nat) : Int) < (wk.length : Int)) = true := by simpa using hn1
    have hq2 : decide (((k : Nat) : Int) < 60) = false := by simp; omega
    go_wp2_with fail
    refine (HAW.out _).mono ?_
    rintro en w14 ⟨rfl, b14⟩
    have WX := Kept.mk (HWw.out.trans (b14.mono (by have := (HWw.out).size; omega)))
    clear b14
    go_wp2_with fail
    go_ret
    exact ⟨rfl, WX.out⟩
theorem rtsteps_law (A2 : Option Addr) (c2 : Nat) (mk : List Int) (A3 : Option Addr) (c3 : Nat) (l : List Int) (A4 : Option Addr) (c4 : Nat) (wk : List Int) (w : World) (_hc2 : mk.length ≤ c2) (_hm2 : c2 ≤ maxLen) (hr2 : RdI w A2 mk) (_ok2 : ∀ x ∈ mk, -9223372036854775808 ≤ x ∧ x ≤ 9223372036854775807) (_hc3 : l.length ≤ c3) (_hm3 : c3 ≤ maxLen) (hr3 : RdI w A3 l) (_ok3 : ∀ x ∈ l, -9223372036854775808 ≤ x ∧ x ≤ 9223372036854775807) (_hc4 : wk.length ≤ c4) (_hm4 : c4 ≤ maxLen) (hr4 : RdI w A4 wk) (_ok4 : ∀ x ∈ wk, -9223372036854775808 ≤ x ∧ x ≤ 9223372036854775807) :
  Calls Try.prog 8 #[.slice A2 mk.length c2, .slice A3 l.length c3, .slice A4 wk.length c4] w (SaysTrue w) := rtsteps_walk A2 c2 mk A3 c3 l A4 c4 wk w _hc4 hr2 hr3 hr4
end
end Go.Proofs.Ytchldbkjapnlcaa
