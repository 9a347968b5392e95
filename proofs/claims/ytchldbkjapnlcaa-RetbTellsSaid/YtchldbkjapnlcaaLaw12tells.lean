/- The law RetbTells: what is guessed of returns, and what they come to, is as the document says. -/
import Derived.Test.YtchldbkjapnlcaaJl
import Derived.Test.YtchldbkjapnlcaaJm
import Derived.Deep.DeepCutAuto
set_option linter.unusedVariables false
set_option linter.unusedSimpArgs false
namespace Go.Proofs.Ytchldbkjapnlcaa
open Go.RowKit

def RPop (raw : List Int) (w : World) (en : Ending) (w' : World) : Prop := ∃ (n : Int) (A : Option Addr) (k c : Nat) (b : Bool), en = .returned (.tuple #[.int .i64 n, .slice A k c, .bool b]) ∧ b = decide (0 < raw.length) ∧ (0 < raw.length → raw.length = k + 1) ∧ (∀ hj : raw.length = k + 1, n = raw[k] ∧ RdI w' A (raw.take k)) ∧ Below w.heap.size w w'
theorem rpop_tells (A : Option Addr) (c : Nat) (raw : List Int) (w : World) (hc : raw.length ≤ c) (hr : RdI w A raw) (hn : raw.length ≤ 50) : Calls Try.prog 19 #[.slice A raw.length c] w (RPop raw w) := by
  cases hl : raw.length with
  | zero =>
    refine (rpop_none A c w).mono ?_
    rintro en w' ⟨rfl, hb⟩
    exact ⟨0, none, 0, 0, false, rfl, by rw [hl]; rfl, fun h => by omega, fun hj => by omega, hb⟩
  | succ j =>
    refine (rpop_some A c j raw w hl (by omega) hr (by omega)).mono ?_
    rintro en w' ⟨v, rfl, ho, hb⟩
    obtain ⟨A1, c1, rfl, hc1, r1⟩ := ho.shape
    have hlt : (raw.take j).length = j := by rw [List.length_take]; omega
    rw [hlt]
    exact ⟨_, A1, j, c1, true, rfl, by rw [hl]; simp, fun _ => hl, fun _ => ⟨rfl, r1⟩, hb⟩
theorem same_ints_at (A A' : Option Addr) (n n' c c' : Nat) (l m : List Int) (w : World) (hn : l.length = n) (hn' : m.length = n') (hr : RdI w A l) (hr' : RdI w A' m) (hc : n ≤ 1000000) :
    Calls Try.prog 20 #[.slice A n c, .slice A' n' c'] w fun en w' => en = .returned (.bool (decide (l = m))) ∧ Below w.heap.size w w' := by
  subst hn hn'
  exact same_ints A A' c c' l m w hr hr' hc
theorem heap_alloc2_new0 (w : World) (a b : Obj) : ((w.alloc a).alloc b).heap[w.heap.size]? = some a := (heap_alloc_old _ _ (by simp)).trans (heap_alloc_new w a)
/-- What Real answers, as a row of numbers. -/
def RealRd (r : Option (List Int)) (w : World) (en : Ending) (w' : World) : Prop := ∃ (A : Option Addr) (n c : Nat) (b : Bool) (x : List Int), en = .returned (.tuple #[.slice A n c, .bool b]) ∧ (b = r.isSome ∧ x = r.getD [] ∧ x.length = n) ∧ RdI w' A x ∧ Below w.heap.size w w'
theorem RealPost.rd {r : Option (List Int)} {w w' : World} {en : Ending} (h : RealPost r w en w') : RealRd r w en w' := by
  obtain ⟨v, e, hv, hb⟩ := h.out
  cases r with
  | none =>
    simp only at hv
    subst hv
    exact ⟨none, 0, 0, false, [], e, ⟨rfl, rfl, rfl⟩, Reads.none_, hb⟩
  | some s =>
    simp only at hv
    obtain ⟨A, c, rfl, _, hr⟩ := hv.shape
    exact ⟨A, s.length, c, true, s, e, ⟨rfl, rfl, rfl⟩, hr, hb⟩
theorem real_any_at (p : Prg) (il : List Inst) (A : Option Addr) (s : List Int) (n c : Nat) (A' : Option Addr) (l : List Ent) (c' : Nat) (i : Int) (w : World) (hn : s.length = n) (hp : PIs w p il) (hs : RdI w A s) (hsn : n ≤ 1000) (hl : RdEs w ⟨A', l.length, c'⟩ l) (hln : l.length ≤ 1000) :
    Calls Try.prog 26 #[p.v, .slice A n c, .slice A' l.length c', .int .i64 i] w (RealRd (realOf il s (l.take i.toNat)) w) := by
  subst hn
  exact (real_any p il A c s A' c' l i w hp.n (Nat.le_trans hp.m (by omega)) hp.r hs hsn hl.r hl.c (by omega)).mono fun _ _ h => h.rd
theorem real_ref_at (p : Prg) (il : List Inst) (A : Option Addr) (s : List Int) (n c : Nat) (A' : Option Addr) (l : List Ent) (c' : Nat) (i : Int) (w : World) (hn : s.length = n) (hp : PIs w p il) (hs : RdI w A s) (hsn : n ≤ 1000) (hl : RdEs w ⟨A', l.length, c'⟩ l) (hln : l.length ≤ 1000) :
    Calls Try.prog 27 #[p.v, .slice A n c, .slice A' l.length c', .int .i64 i] w (RealRd (realOf il s (l.take i.toNat)) w) := by
  subst hn
  exact (real_ref p il A c s A' c' l i w hp hs hsn hl.r (by omega)).mono fun _ _ h => h.rd
theorem realOf_len (il : List Inst) : ∀ (l : List Ent) (s s' : List Int), realOf il s l = some s' → s'.length ≤ s.length + l.length
  | [], s, s', h => by rw [realOf] at h; injection h with h; subst h; simp
  | e :: l, s, s', h => by
    rw [realOf] at h
    split at h
    · split at h
      · cases h
      · have := realOf_len il l _ _ h; simp at this ⊢; omega
    · split at h
      · split at h
        · cases h
        · have := realOf_len il l _ _ h; simp at this ⊢; omega
      · have := realOf_len il l _ _ h; simp at this ⊢; omega
theorem real_small {il : List Inst} {s x : List Int} {l : List Ent} (h : x = (realOf il s l).getD []) (hs : s.length + l.length ≤ 2000) : x.length ≤ 2000 := by
  cases hr : realOf il s l with
  | none => rw [hr] at h; rw [h]; simp
  | some y =>
    rw [hr] at h
    have := realOf_len il l s y hr
    rw [h]
    simp only [Option.getD_some]
    omega
set_option maxRecDepth 100000 in
set_option maxHeartbeats 4000000 in
theorem rtells_walk (A0 : Option Addr) (c0 : Nat) (raw : List Int) (pc : Int) (A2 : Option Addr) (c2 : Nat) (mk : List Int) (A3 : Option Addr) (c3 : Nat) (l : List Int) (A4 : Option Addr) (c4 : Nat) (wk : List Int) (w : World) (hc0 : raw.length ≤ c0) (hr0 : RdI w A0 raw) (hr2 : RdI w A2 mk) (hr3 : RdI w A3 l) (hr4 : RdI w A4 wk) :
    Calls Try.prog 3 #[.slice A0 raw.length c0, .int .i64 pc, .slice A2 mk.length c2, .slice A3 l.length c3, .slice A4 wk.length c4] w (SaysTrue w) := by
  have HAW := Kept.mk awake12
  by_cases h50 : 50 < raw.length
  · have h50i : (50 : Int) < (raw.length : Int) := by omega
    clear h50 hr0 hr2 hr3 hr4
    go_enter Try.func3, Try.ntmps3
    go_wp2_with fail
    refine (HAW.out _).mono ?_
    rintro en w1 ⟨rfl, b1⟩
    go_wp2_with fail
    go_ret
    exact ⟨rfl, b1⟩
  have h50i : ¬ (50 : Int) < (raw.length : Int) := by omega
  have hraw : raw.length ≤ 50 := by omega
  have HR0 := Kept.mk hr0
  have HR2 := Kept.mk hr2
  have HR3 := Kept.mk hr3
  have HR4 := Kept.mk hr4
  clear hr0 hr2 hr3 hr4 h50
  go_enter Try.func3, Try.ntmps3
  go_wp2_with fail
  refine (rpop_tells A0 c0 raw w hc0 HR0.out hraw).mono ?_
  rintro en w1 ⟨nv, A1, k1, c1, b, rfl, hb, hjl, hjj, b1⟩
  have W1 := Kept.mk b1
  have HJ := Kept.mk hjj
  clear hjj b1
  by_cases h0 : 0 < raw.length
  · have hb0 : b = true := by rw [hb]; simp [h0]
    subst hb0
    have hj := hjl h0
    obtain ⟨hnv, hrd⟩ := HJ.out hj
    have HNV : Kept (raw[k1]? = some nv) := ⟨by rw [hnv]; exact List.getElem?_eq_getElem _⟩
    have HRD := Kept.mk hrd
    have HJ1 := Kept.mk hj
    have h0i : (0 : Int) < (raw.length : Int) := by omega
    have hji : (raw.length : Int) - 1 = (k1 : Int) := by omega
    have HJI := Kept.mk hji
    have hkr : k1 < raw.length := by omega
    have hkri : (k1 : Int) < (raw.length : Int) := by omega
    clear hb hrd hnv hj h0 HJ hji hjl
    go_wp2_with fail
    refine (rpush A0 c0 raw pc w1 (HR0.out.past W1.out) (by omega)).mono ?_
    rintro en w2 ⟨v2, rfl, ho2, b2⟩
    obtain ⟨P2, d2, rfl, hd2, r2⟩ := ho2.shape
    have W2 := Kept.mk (W1.out.trans (b2.mono W1.out.size))
    have W12 := Kept.mk b2
    have R2 := Kept.mk r2
    clear ho2 b2 r2
    go_wp2_with fail
    refine (push_ref A0 c0 raw pc w2 (HR0.out.past W2.out) (by omega)).mono ?_
    rintro en w3 ⟨P3, d3, rfl, hd3, r3, _, b3⟩
    have W3 := Kept.mk (W2.out.trans (b3.mono W2.out.size))
    have W13 := Kept.mk (W12.out.trans (b3.mono W12.out.size))
    have R2 := Kept.mk (R2.out.past b3)
    have R3 := Kept.mk r3
    have hlt : (lastTwo (raw ++ [pc])).length ≤ 2 := by unfold lastTwo; rw [List.length_drop]; omega
    clear b3 r3
    go_wp2_with fail
    refine (same_ints_at _ _ _ _ _ _ _ _ w3 rfl rfl R2.out R3.out (by omega)).mono ?_
    rintro en w4 ⟨rfl, b4⟩
    rw [decide_eq_true (rfl : lastTwo (raw ++ [pc]) = lastTwo (raw ++ [pc]))]
    have W4 := Kept.mk (W3.out.trans (b4.mono W3.out.size))
    have W14 := Kept.mk (W13.out.trans (b4.mono W13.out.size))
    clear b4 R2 R3 W2 W3 W12 W13
    have HRD := Kept.mk (HRD.out.past W14.out)
    have hR := HR0.out.past W4.out
    obtain ⟨hcut, hrc⟩ := cut_int_to hR hc0 k1 (by omega)
    have HRC := Kept.mk hrc
    obtain ⟨lB, lO, rfl, hlb, zl0⟩ := RdI.at_ hR hkr
    have zl : w4.cell? ⟨lB, lO + k1, none⟩ = some (.int .i64 nv) := by
      have hh := HNV.out
      rw [List.getElem?_eq_getElem hkr] at hh
      injection hh with hh
      rw [← hh]
      exact zl0
    have hji := HJI.out
    clear zl0
    clear hR hrc
    go_wp2_with fail
    refine (same_ints_at _ _ _ _ _ _ _ _ w4 (by rw [List.length_take]; omega) (by rw [List.length_take]; omega) HRD.out HRC.out (by omega)).mono ?_
    rintro en w5 ⟨rfl, b5⟩
    rw [decide_eq_true (rfl : raw.take k1 = raw.take k1)]
    have W5 := Kept.mk (W4.out.trans (b5.mono W4.out.size))
    clear b5 zl hcut hji HRD HRC W4 W14 W1 HNV
    go_wp2_with fail
    refine (make_at A2 mk mk.length c2 w5 rfl (HR2.out.past W5.out)).mono ?_
    rintro en w6 ⟨p, il, ml, rfl, hmk, b6⟩
    have W6 := Kept.mk (W5.out.trans (b6.mono W5.out.size))
    obtain ⟨pmA, pmC, hpm, -, -⟩ := hmk.mem
    obtain ⟨plA, plN, plC, hpl⟩ := hmk.lab
    obtain ⟨pW, pwin, pfuel, pr0, pr1, pr2, pr3, pmems, plabels, pA, pN, pC⟩ := p
    simp only at hpm hpl
    subst hpm hpl
    have HMK := Kept.mk hmk
    clear hmk b6
    obtain ⟨HPM, hPM⟩ : ∃ x : Kept (ProgOk pW pwin il), x = x := ⟨⟨make_prog HMK.out⟩, rfl⟩
    clear hPM
    go_wp2_with fail
    have ba := below_alloc_self w6 (.cells (Prg.cs (⟨pW, pwin, pfuel, pr0, pr1, pr2, pr3, .slice pmA ml.length pmC, .slice plA plN plC, pA, pN, pC⟩ : Prg)).toArray 33)
    refine (states_mach (⟨pW, pwin, pfuel, pr0, pr1, pr2, pr3, .slice pmA ml.length pmC, .slice plA plN plC, pA, pN, pC⟩ : Prg) il ml A3 l l.length c3 (w6.alloc (.cells (Prg.cs (⟨pW, pwin, pfuel, pr0, pr1, pr2, pr3, .slice pmA ml.length pmC, .slice plA plN plC, pA, pN, pC⟩ : Prg)).toArray 33)) rfl (HMK.out.past ba) (HR3.out.past (W6.out.trans (ba.mono W6.out.size)))).mono ?_
    rintro en w7 ⟨s, t, ms, mt, rfl, hs, ht, b7⟩
    have XP := Kept.mk (heap_keep (heap_alloc_new w6 (.cells (Prg.cs (⟨pW, pwin, pfuel, pr0, pr1, pr2, pr3, .slice pmA ml.length pmC, .slice plA plN plC, pA, pN, pC⟩ : Prg)).toArray 33)) b7)
    have W7 := Kept.mk ((W6.out.trans (ba.mono W6.out.size)).trans (b7.mono (by have := W6.out.size; simp; omega)))
    have HMK := Kept.mk ((HMK.out.past ba).past b7)
    have HS := Kept.mk hs
    clear hs ht b7 ba
    obtain ⟨s0, s1, s2, s3, ⟨sA, sN, sC⟩, ⟨uA, uN, uC⟩, s6⟩ := s
    obtain ⟨t0, t1, t2, t3, ⟨tA, tN, tC⟩, ⟨vA, vN, vC⟩, t6⟩ := t
    go_upto_region 8 with (fail)
    have bb := (below_alloc_self w7 (.cells #[.int .i64 s0, .int .i64 s1, .int .i64 s2, .int .i64 s3, .slice sA sN sC, .slice uA uN uC, .int .i64 s6] 36)).alloc (by simp) (.cells #[.int .i64 t0, .int .i64 t1, .int .i64 t2, .int .i64 t3, .slice tA tN tC, .slice vA vN vC, .int .i64 t6] 36)
    have XS := Kept.mk (heap_alloc2_new0 w7 (.cells #[.int .i64 s0, .int .i64 s1, .int .i64 s2, .int .i64 s3, .slice sA sN sC, .slice uA uN uC, .int .i64 s6] 36) (.cells #[.int .i64 t0, .int .i64 t1, .int .i64 t2, .int .i64 t3, .slice tA tN tC, .slice vA vN vC, .int .i64 t6] 36))
    have XP := Kept.mk (heap_keep XP.out bb)
    have W8 := Kept.mk (W7.out.trans (bb.mono W7.out.size))
    have HMK := Kept.mk (HMK.out.past bb)
    have HS := Kept.mk (HS.out.past bb)
    clear bb
    generalize (w7.alloc (.cells #[.int .i64 s0, .int .i64 s1, .int .i64 s2, .int .i64 s3, .slice sA sN sC, .slice uA uN uC, .int .i64 s6] 36)).alloc (.cells #[.int .i64 t0, .int .i64 t1, .int .i64 t2, .int .i64 t3, .slice tA tN tC, .slice vA vN vC, .int .i64 t6] 36) = w8 at *
    have Y6 := fun j => cell_of_row w8 w6.heap.size j _ _ _ XP.out
    have Y7 := fun j => cell_of_row w8 w7.heap.size j _ _ _ XS.out
    simp only [Prg.cs] at Y6
    go_wp2_with fail
    refine (walk_mach (⟨pW, pwin, pfuel, pr0, pr1, pr2, pr3, .slice pmA ml.length pmC, .slice plA plN plC, pA, pN, pC⟩ : Prg) il ml ⟨s0, s1, s2, s3, ⟨sA, sN, sC⟩, ⟨uA, uN, uC⟩, s6⟩ ms A4 wk wk.length c4 w8 rfl HMK.out HS.out (HR4.out.past W8.out)).mono ?_
    rintro en w9 ⟨c, m, dv, out, k, rfl, hm, hd, _, b9⟩
    obtain ⟨dA, dC, rfl, -, -⟩ := hd.shape
    have W9 := Kept.mk (W8.out.trans (b9.mono W8.out.size))
    have XP := Kept.mk (heap_keep XP.out b9)
    have HM := Kept.mk hm
    clear hd b9 hm Y6 Y7 HS HMK XS
    obtain ⟨⟨r0, r1, r2, r3, ⟨mA, mN, mC⟩, ⟨kA, kN, kC⟩, cpc⟩, ⟨bA, bN, bC⟩, ⟨qA, qN, qC⟩, fin⟩ := c
    have hbn : bN = m.buf.length := HM.out.cf.buf.n
    have hkn : kN = m.st.stack.length := HM.out.cf.st.stack.n
    subst hbn hkn
    have hbl := HM.out.buf_len
    have hsl := HM.out.stack_len
    go_upto_region 9 with (fail)
    have bc := below_alloc_self w9 (.cells #[.int .i64 r0, .int .i64 r1, .int .i64 r2, .int .i64 r3, .slice mA mN mC, .slice kA m.st.stack.length kC, .int .i64 cpc, .slice bA m.buf.length bC, .slice qA qN qC, .int .i64 fin] 41)
    have XC := Kept.mk (heap_alloc_new w9 (.cells #[.int .i64 r0, .int .i64 r1, .int .i64 r2, .int .i64 r3, .slice mA mN mC, .slice kA m.st.stack.length kC, .int .i64 cpc, .slice bA m.buf.length bC, .slice qA qN qC, .int .i64 fin] 41))
    have XP := Kept.mk (heap_keep XP.out bc)
    have W10 := Kept.mk (W9.out.trans (bc.mono W9.out.size))
    have HM := Kept.mk (HM.out.past bc)
    clear bc
    generalize w9.alloc (.cells #[.int .i64 r0, .int .i64 r1, .int .i64 r2, .int .i64 r3, .slice mA mN mC, .slice kA m.st.stack.length kC, .int .i64 cpc, .slice bA m.buf.length bC, .slice qA qN qC, .int .i64 fin] 41) = w10 at *
    go_wp2_with fail
    go_loopw [19] (fun s19 wr => ∃ i : Int, s19 = .int .i64 i ∧ -1 ≤ i ∧ i ≤ (m.buf.length : Int) + 2 ∧ Below w10.heap.size w10 wr) (fun s19 _ => ((m.buf.length : Int) + 2 - intOf s19).toNat)
    case atStart => exact ⟨-1, rfl, by omega, by omega, Below.refl _ _⟩
    case round =>
      obtain ⟨i, rfl, hi0, hi1, hb⟩ := hrel
      have HB := Kept.mk hb
      have Y9 := fun j => cell_of_row wr w9.heap.size j _ _ _ (heap_keep XC.out hb)
      clear hb
      by_cases hil : i ≤ (m.buf.length : Int) + 1
      · go_wp2_with fail
        go_loopw [20] (fun s20 wr => ∃ q : Nat, q ≤ 2 ∧ s20 = .int .i64 (q : Int) ∧ Below w10.heap.size w10 wr) (fun s20 _ => 2 - (intOf s20).toNat)
        case atStart => exact ⟨0, by omega, rfl, HB.out⟩
        case round =>
          clear HB Y9
          obtain ⟨q, hq, rfl, hb⟩ := hrel
          have HB := Kept.mk hb
          have XCw := Kept.mk (heap_keep XC.out hb)
          have XPw := Kept.mk (heap_keep XP.out hb)
          have HMw := Kept.mk (HM.out.past hb)
          have HWw := Kept.mk (W10.out.trans (hb.mono W10.out.size))
          have Y9 := fun j => cell_of_row wr w9.heap.size j _ _ _ XCw.out
          have Y6 := fun j => cell_of_row wr w6.heap.size j _ _ _ XPw.out
          simp only [Prg.cs] at Y6
          clear hb
          have : q = 0 ∨ q = 1 ∨ q = 2 := by omega
          clear hq
          rcases this with rfl | rfl | rfl
          · have HST : Kept (RdI wr kA m.st.stack) := ⟨HMw.out.cf.st.stack.r⟩
            go_wp2_with fail
            refine (real_any_at (⟨pW, pwin, pfuel, pr0, pr1, pr2, pr3, .slice pmA ml.length pmC, .slice plA plN plC, pA, pN, pC⟩ : Prg) il kA m.st.stack m.st.stack.length kC bA m.buf bC i wr rfl HMw.out.pi HST.out (by omega) HMw.out.cf.buf (by omega)).mono ?_
            rintro en w12 ⟨Aa, na, ca, ba, xa, rfl, hna, hra, b12⟩
            have HRA := Kept.mk hra
            have XCw := Kept.mk (heap_keep XCw.out b12)
            have XPw := Kept.mk (heap_keep XPw.out b12)
            have HMw := Kept.mk (HMw.out.past b12)
            have HST := Kept.mk (HST.out.past b12)
            have HB := Kept.mk (HB.out.trans (b12.mono HB.out.size))
            have HNA := Kept.mk hna
            have Y9 := fun j => cell_of_row w12 w9.heap.size j _ _ _ XCw.out
            have Y6 := fun j => cell_of_row w12 w6.heap.size j _ _ _ XPw.out
            simp only [Prg.cs] at Y6
            clear hra b12
            go_wp2_with fail
            refine (real_ref_at (⟨pW, pwin, pfuel, pr0, pr1, pr2, pr3, .slice pmA ml.length pmC, .slice plA plN plC, pA, pN, pC⟩ : Prg) il kA m.st.stack m.st.stack.length kC bA m.buf bC i w12 rfl HMw.out.pi HST.out (by omega) HMw.out.cf.buf (by omega)).mono ?_
            rintro en w13 ⟨Ab, nb, cb, bb, xb, rfl, hnb, hrb, b13⟩
            obtain ⟨hba, hxa⟩ := HNA.out
            obtain ⟨hbb, hxb⟩ := hnb
            have HRA := Kept.mk (HRA.out.past b13)
            have HRB := Kept.mk hrb
            have HB := Kept.mk (HB.out.trans (b13.mono HB.out.size))
            have hxx : xa = xb := hxa.1.trans hxb.1.symm
            have hbbx : ba = bb := hba.trans hbb.symm
            have HXA := Kept.mk hxa.2
            have HXB := Kept.mk hxb.2
            have hxl := hxa.2
            have hxl2 : xa.length ≤ 1000000 := by have := real_small hxa.1 (by rw [List.length_take]; omega); omega
            subst hxx hbbx
            clear hrb b13 hba hxa hbb hxb
            generalize (realOf il m.st.stack (m.buf.take i.toNat)).isSome = bz at *
            cases bz
            all_goals
              go_wp2_with fail
              refine (same_ints_at _ _ _ _ _ _ _ _ w13 HXA.out HXB.out HRA.out HRB.out (by have := HXA.out; omega)).mono ?_
              rintro en w14 ⟨rfl, b14⟩
              rw [decide_eq_true (rfl : xa = xa)]
              have HB := Kept.mk (HB.out.trans (b14.mono HB.out.size))
              clear b14
              go_wp2_with fail
              exact ⟨⟨0 + 1, by omega, by go_num, HB.out⟩, by simp [intOf]⟩
          · have hRw := HR0.out.past HWw.out
            obtain ⟨Mn, hMn, hM4, hMl⟩ : ∃ Mn : Nat, min (raw.length : Int) 4 = Mn ∧ Mn ≤ 4 ∧ Mn ≤ raw.length := ⟨min raw.length 4, by omega, by omega, by omega⟩
            obtain ⟨hcut2, hrm⟩ := cut_int_to hRw hc0 Mn hMl
            have HST := Kept.mk hrm
            have hml : (raw.take Mn).length = Mn := by rw [List.length_take]; omega
            have HML := Kept.mk hml
            clear hRw hrm hml hMl
            go_wp2_with fail
            refine (real_any_at (⟨pW, pwin, pfuel, pr0, pr1, pr2, pr3, .slice pmA ml.length pmC, .slice plA plN plC, pA, pN, pC⟩ : Prg) il (some ⟨lB, lO, none⟩) (raw.take Mn) Mn c0 bA m.buf bC i wr HML.out HMw.out.pi HST.out (by omega) HMw.out.cf.buf (by omega)).mono ?_
            rintro en w12 ⟨Aa, na, ca, ba, xa, rfl, hna, hra, b12⟩
            have HRA := Kept.mk hra
            have XCw := Kept.mk (heap_keep XCw.out b12)
            have XPw := Kept.mk (heap_keep XPw.out b12)
            have HMw := Kept.mk (HMw.out.past b12)
            have HST := Kept.mk (HST.out.past b12)
            have HB := Kept.mk (HB.out.trans (b12.mono HB.out.size))
            have HNA := Kept.mk hna
            have Y9 := fun j => cell_of_row w12 w9.heap.size j _ _ _ XCw.out
            have Y6 := fun j => cell_of_row w12 w6.heap.size j _ _ _ XPw.out
            simp only [Prg.cs] at Y6
            clear hra b12
            go_wp2_with fail
            refine (real_ref_at (⟨pW, pwin, pfuel, pr0, pr1, pr2, pr3, .slice pmA ml.length pmC, .slice plA plN plC, pA, pN, pC⟩ : Prg) il (some ⟨lB, lO, none⟩) (raw.take Mn) Mn c0 bA m.buf bC i w12 HML.out HMw.out.pi HST.out (by omega) HMw.out.cf.buf (by omega)).mono ?_
            rintro en w13 ⟨Ab, nb, cb, bb, xb, rfl, hnb, hrb, b13⟩
            obtain ⟨hba, hxa⟩ := HNA.out
            obtain ⟨hbb, hxb⟩ := hnb
            have HRA := Kept.mk (HRA.out.past b13)
            have HRB := Kept.mk hrb
            have HB := Kept.mk (HB.out.trans (b13.mono HB.out.size))
            have hxx : xa = xb := hxa.1.trans hxb.1.symm
            have hbbx : ba = bb := hba.trans hbb.symm
            have HXA := Kept.mk hxa.2
            have HXB := Kept.mk hxb.2
            have hxl := hxa.2
            have hxl2 : xa.length ≤ 1000000 := by have := real_small hxa.1 (by rw [HML.out, List.length_take]; omega); omega
            subst hxx hbbx
            clear hrb b13 hba hxa hbb hxb
            generalize (realOf il (raw.take Mn) (m.buf.take i.toNat)).isSome = bz at *
            cases bz
            all_goals
              go_wp2_with fail
              refine (same_ints_at _ _ _ _ _ _ _ _ w13 HXA.out HXB.out HRA.out HRB.out (by have := HXA.out; omega)).mono ?_
              rintro en w14 ⟨rfl, b14⟩
              rw [decide_eq_true (rfl : xa = xa)]
              have HB := Kept.mk (HB.out.trans (b14.mono HB.out.size))
              clear b14
              go_wp2_with fail
              exact ⟨⟨1 + 1, by omega, by go_num, HB.out⟩, by simp [intOf]⟩
          · go_wp2_with fail
            exact ⟨⟨i + 1, by go_num, by omega, by omega, HB.out⟩, by simp [intOf] <;> omega⟩
      · go_wp2_with fail
        refine (HAW.out _).mono ?_
        rintro en w11 ⟨rfl, b11⟩
        have WX := Kept.mk ((W10.out.trans (HB.out.mono W10.out.size)).trans (b11.mono (by have := HB.out.size; have := W10.out.size; omega)))
        clear b11
        go_wp2_with fail
        go_ret
        exact ⟨rfl, WX.out⟩
  · have hb0 : b = false := by rw [hb]; simp [h0]
    subst hb0
    obtain rfl : raw = [] := List.eq_nil_of_length_eq_zero (by omega)
    have hcz : ∀ w1, (Instr.slice 22 (.slice A0 0 c0) none (some (.int .i64 0)) none).run Try.prog w1 = .ok (.slice A0 0 c0) w1 := fun w1 => by simpa using (cut_int_to (l := []) HR0.out hc0 0 (Nat.le_refl _)).1 w1
    clear hb h0 HJ hjl
    go_wp2_with fail
    refine (rpush A0 c0 [] pc w1 (HR0.out.past W1.out) (by omega)).mono ?_
    rintro en w2 ⟨v2, rfl, ho2, b2⟩
    obtain ⟨P2, d2, rfl, hd2, r2⟩ := ho2.shape
    have W2 := Kept.mk (W1.out.trans (b2.mono W1.out.size))
    have W12 := Kept.mk b2
    have R2 := Kept.mk r2
    clear ho2 b2 r2
    go_wp2_with fail
    refine (push_ref A0 c0 [] pc w2 (HR0.out.past W2.out) (by omega)).mono ?_
    rintro en w3 ⟨P3, d3, rfl, hd3, r3, _, b3⟩
    have W3 := Kept.mk (W2.out.trans (b3.mono W2.out.size))
    have W13 := Kept.mk (W12.out.trans (b3.mono W12.out.size))
    have R2 := Kept.mk (R2.out.past b3)
    have R3 := Kept.mk r3
    have hlt : (lastTwo ([] ++ [pc])).length ≤ 2 := by unfold lastTwo; rw [List.length_drop]; omega
    clear b3 r3
    go_wp2_with fail
    refine (same_ints_at _ _ _ _ _ _ _ _ w3 rfl rfl R2.out R3.out (by omega)).mono ?_
    rintro en w4 ⟨rfl, b4⟩
    rw [decide_eq_true (rfl : lastTwo ([] ++ [pc]) = lastTwo ([] ++ [pc]))]
    have W4 := Kept.mk (W3.out.trans (b4.mono W3.out.size))
    have W14 := Kept.mk (W13.out.trans (b4.mono W13.out.size))
    clear b4 R2 R3 W2 W3 W12 W13
    go_wp2_with fail
    refine (make_at A2 mk mk.length c2 w4 rfl (HR2.out.past W4.out)).mono ?_
    rintro en w6 ⟨p, il, ml, rfl, hmk, b6⟩
    have W6 := Kept.mk (W4.out.trans (b6.mono W4.out.size))
    obtain ⟨pmA, pmC, hpm, -, -⟩ := hmk.mem
    obtain ⟨plA, plN, plC, hpl⟩ := hmk.lab
    obtain ⟨pW, pwin, pfuel, pr0, pr1, pr2, pr3, pmems, plabels, pA, pN, pC⟩ := p
    simp only at hpm hpl
    subst hpm hpl
    have HMK := Kept.mk hmk
    clear hmk b6
    obtain ⟨HPM, hPM⟩ : ∃ x : Kept (ProgOk pW pwin il), x = x := ⟨⟨make_prog HMK.out⟩, rfl⟩
    clear hPM
    go_wp2_with fail
    have ba := below_alloc_self w6 (.cells (Prg.cs (⟨pW, pwin, pfuel, pr0, pr1, pr2, pr3, .slice pmA ml.length pmC, .slice plA plN plC, pA, pN, pC⟩ : Prg)).toArray 33)
    refine (states_mach (⟨pW, pwin, pfuel, pr0, pr1, pr2, pr3, .slice pmA ml.length pmC, .slice plA plN plC, pA, pN, pC⟩ : Prg) il ml A3 l l.length c3 (w6.alloc (.cells (Prg.cs (⟨pW, pwin, pfuel, pr0, pr1, pr2, pr3, .slice pmA ml.length pmC, .slice plA plN plC, pA, pN, pC⟩ : Prg)).toArray 33)) rfl (HMK.out.past ba) (HR3.out.past (W6.out.trans (ba.mono W6.out.size)))).mono ?_
    rintro en w7 ⟨s, t, ms, mt, rfl, hs, ht, b7⟩
    have XP := Kept.mk (heap_keep (heap_alloc_new w6 (.cells (Prg.cs (⟨pW, pwin, pfuel, pr0, pr1, pr2, pr3, .slice pmA ml.length pmC, .slice plA plN plC, pA, pN, pC⟩ : Prg)).toArray 33)) b7)
    have W7 := Kept.mk ((W6.out.trans (ba.mono W6.out.size)).trans (b7.mono (by have := W6.out.size; simp; omega)))
    have HMK := Kept.mk ((HMK.out.past ba).past b7)
    have HS := Kept.mk hs
    clear hs ht b7 ba
    obtain ⟨s0, s1, s2, s3, ⟨sA, sN, sC⟩, ⟨uA, uN, uC⟩, s6⟩ := s
    obtain ⟨t0, t1, t2, t3, ⟨tA, tN, tC⟩, ⟨vA, vN, vC⟩, t6⟩ := t
    go_upto_region 8 with (fail)
    have bb := (below_alloc_self w7 (.cells #[.int .i64 s0, .int .i64 s1, .int .i64 s2, .int .i64 s3, .slice sA sN sC, .slice uA uN uC, .int .i64 s6] 36)).alloc (by simp) (.cells #[.int .i64 t0, .int .i64 t1, .int .i64 t2, .int .i64 t3, .slice tA tN tC, .slice vA vN vC, .int .i64 t6] 36)
    have XS := Kept.mk (heap_alloc2_new0 w7 (.cells #[.int .i64 s0, .int .i64 s1, .int .i64 s2, .int .i64 s3, .slice sA sN sC, .slice uA uN uC, .int .i64 s6] 36) (.cells #[.int .i64 t0, .int .i64 t1, .int .i64 t2, .int .i64 t3, .slice tA tN tC, .slice vA vN vC, .int .i64 t6] 36))
    have XP := Kept.mk (heap_keep XP.out bb)
    have W8 := Kept.mk (W7.out.trans (bb.mono W7.out.size))
    have HMK := Kept.mk (HMK.out.past bb)
    have HS := Kept.mk (HS.out.past bb)
    clear bb
    generalize (w7.alloc (.cells #[.int .i64 s0, .int .i64 s1, .int .i64 s2, .int .i64 s3, .slice sA sN sC, .slice uA uN uC, .int .i64 s6] 36)).alloc (.cells #[.int .i64 t0, .int .i64 t1, .int .i64 t2, .int .i64 t3, .slice tA tN tC, .slice vA vN vC, .int .i64 t6] 36) = w8 at *
    have Y6 := fun j => cell_of_row w8 w6.heap.size j _ _ _ XP.out
    have Y7 := fun j => cell_of_row w8 w7.heap.size j _ _ _ XS.out
    simp only [Prg.cs] at Y6
    go_wp2_with fail
    refine (walk_mach (⟨pW, pwin, pfuel, pr0, pr1, pr2, pr3, .slice pmA ml.length pmC, .slice plA plN plC, pA, pN, pC⟩ : Prg) il ml ⟨s0, s1, s2, s3, ⟨sA, sN, sC⟩, ⟨uA, uN, uC⟩, s6⟩ ms A4 wk wk.length c4 w8 rfl HMK.out HS.out (HR4.out.past W8.out)).mono ?_
    rintro en w9 ⟨c, m, dv, out, k, rfl, hm, hd, _, b9⟩
    obtain ⟨dA, dC, rfl, -, -⟩ := hd.shape
    have W9 := Kept.mk (W8.out.trans (b9.mono W8.out.size))
    have XP := Kept.mk (heap_keep XP.out b9)
    have HM := Kept.mk hm
    clear hd b9 hm Y6 Y7 HS HMK XS
    obtain ⟨⟨r0, r1, r2, r3, ⟨mA, mN, mC⟩, ⟨kA, kN, kC⟩, cpc⟩, ⟨bA, bN, bC⟩, ⟨qA, qN, qC⟩, fin⟩ := c
    have hbn : bN = m.buf.length := HM.out.cf.buf.n
    have hkn : kN = m.st.stack.length := HM.out.cf.st.stack.n
    subst hbn hkn
    have hbl := HM.out.buf_len
    have hsl := HM.out.stack_len
    go_upto_region 9 with (fail)
    have bc := below_alloc_self w9 (.cells #[.int .i64 r0, .int .i64 r1, .int .i64 r2, .int .i64 r3, .slice mA mN mC, .slice kA m.st.stack.length kC, .int .i64 cpc, .slice bA m.buf.length bC, .slice qA qN qC, .int .i64 fin] 41)
    have XC := Kept.mk (heap_alloc_new w9 (.cells #[.int .i64 r0, .int .i64 r1, .int .i64 r2, .int .i64 r3, .slice mA mN mC, .slice kA m.st.stack.length kC, .int .i64 cpc, .slice bA m.buf.length bC, .slice qA qN qC, .int .i64 fin] 41))
    have XP := Kept.mk (heap_keep XP.out bc)
    have W10 := Kept.mk (W9.out.trans (bc.mono W9.out.size))
    have HM := Kept.mk (HM.out.past bc)
    clear bc
    generalize w9.alloc (.cells #[.int .i64 r0, .int .i64 r1, .int .i64 r2, .int .i64 r3, .slice mA mN mC, .slice kA m.st.stack.length kC, .int .i64 cpc, .slice bA m.buf.length bC, .slice qA qN qC, .int .i64 fin] 41) = w10 at *
    go_wp2_with fail
    go_loopw [19] (fun s19 wr => ∃ i : Int, s19 = .int .i64 i ∧ -1 ≤ i ∧ i ≤ (m.buf.length : Int) + 2 ∧ Below w10.heap.size w10 wr) (fun s19 _ => ((m.buf.length : Int) + 2 - intOf s19).toNat)
    case atStart => exact ⟨-1, rfl, by omega, by omega, Below.refl _ _⟩
    case round =>
      obtain ⟨i, rfl, hi0, hi1, hb⟩ := hrel
      have HB := Kept.mk hb
      have Y9 := fun j => cell_of_row wr w9.heap.size j _ _ _ (heap_keep XC.out hb)
      clear hb
      by_cases hil : i ≤ (m.buf.length : Int) + 1
      · go_wp2_with fail
        go_loopw [20] (fun s20 wr => ∃ q : Nat, q ≤ 2 ∧ s20 = .int .i64 (q : Int) ∧ Below w10.heap.size w10 wr) (fun s20 _ => 2 - (intOf s20).toNat)
        case atStart => exact ⟨0, by omega, rfl, HB.out⟩
        case round =>
          clear HB Y9
          obtain ⟨q, hq, rfl, hb⟩ := hrel
          have HB := Kept.mk hb
          have XCw := Kept.mk (heap_keep XC.out hb)
          have XPw := Kept.mk (heap_keep XP.out hb)
          have HMw := Kept.mk (HM.out.past hb)
          have HWw := Kept.mk (W10.out.trans (hb.mono W10.out.size))
          have Y9 := fun j => cell_of_row wr w9.heap.size j _ _ _ XCw.out
          have Y6 := fun j => cell_of_row wr w6.heap.size j _ _ _ XPw.out
          simp only [Prg.cs] at Y6
          clear hb
          have : q = 0 ∨ q = 1 ∨ q = 2 := by omega
          clear hq
          rcases this with rfl | rfl | rfl
          · have HST : Kept (RdI wr kA m.st.stack) := ⟨HMw.out.cf.st.stack.r⟩
            go_wp2_with fail
            refine (real_any_at (⟨pW, pwin, pfuel, pr0, pr1, pr2, pr3, .slice pmA ml.length pmC, .slice plA plN plC, pA, pN, pC⟩ : Prg) il kA m.st.stack m.st.stack.length kC bA m.buf bC i wr rfl HMw.out.pi HST.out (by omega) HMw.out.cf.buf (by omega)).mono ?_
            rintro en w12 ⟨Aa, na, ca, ba, xa, rfl, hna, hra, b12⟩
            have HRA := Kept.mk hra
            have XCw := Kept.mk (heap_keep XCw.out b12)
            have XPw := Kept.mk (heap_keep XPw.out b12)
            have HMw := Kept.mk (HMw.out.past b12)
            have HST := Kept.mk (HST.out.past b12)
            have HB := Kept.mk (HB.out.trans (b12.mono HB.out.size))
            have HNA := Kept.mk hna
            have Y9 := fun j => cell_of_row w12 w9.heap.size j _ _ _ XCw.out
            have Y6 := fun j => cell_of_row w12 w6.heap.size j _ _ _ XPw.out
            simp only [Prg.cs] at Y6
            clear hra b12
            go_wp2_with fail
            refine (real_ref_at (⟨pW, pwin, pfuel, pr0, pr1, pr2, pr3, .slice pmA ml.length pmC, .slice plA plN plC, pA, pN, pC⟩ : Prg) il kA m.st.stack m.st.stack.length kC bA m.buf bC i w12 rfl HMw.out.pi HST.out (by omega) HMw.out.cf.buf (by omega)).mono ?_
            rintro en w13 ⟨Ab, nb, cb, bb, xb, rfl, hnb, hrb, b13⟩
            obtain ⟨hba, hxa⟩ := HNA.out
            obtain ⟨hbb, hxb⟩ := hnb
            have HRA := Kept.mk (HRA.out.past b13)
            have HRB := Kept.mk hrb
            have HB := Kept.mk (HB.out.trans (b13.mono HB.out.size))
            have hxx : xa = xb := hxa.1.trans hxb.1.symm
            have hbbx : ba = bb := hba.trans hbb.symm
            have HXA := Kept.mk hxa.2
            have HXB := Kept.mk hxb.2
            have hxl := hxa.2
            have hxl2 : xa.length ≤ 1000000 := by have := real_small hxa.1 (by rw [List.length_take]; omega); omega
            subst hxx hbbx
            clear hrb b13 hba hxa hbb hxb
            generalize (realOf il m.st.stack (m.buf.take i.toNat)).isSome = bz at *
            cases bz
            all_goals
              go_wp2_with fail
              refine (same_ints_at _ _ _ _ _ _ _ _ w13 HXA.out HXB.out HRA.out HRB.out (by have := HXA.out; omega)).mono ?_
              rintro en w14 ⟨rfl, b14⟩
              rw [decide_eq_true (rfl : xa = xa)]
              have HB := Kept.mk (HB.out.trans (b14.mono HB.out.size))
              clear b14
              go_wp2_with fail
              exact ⟨⟨0 + 1, by omega, by go_num, HB.out⟩, by simp [intOf]⟩
          · have HST : Kept (RdI wr A0 []) := ⟨HR0.out.past HWw.out⟩
            go_wp2_with fail
            refine (real_any_at (⟨pW, pwin, pfuel, pr0, pr1, pr2, pr3, .slice pmA ml.length pmC, .slice plA plN plC, pA, pN, pC⟩ : Prg) il A0 ([] : List Int) 0 c0 bA m.buf bC i wr rfl HMw.out.pi HST.out (by omega) HMw.out.cf.buf (by omega)).mono ?_
            rintro en w12 ⟨Aa, na, ca, ba, xa, rfl, hna, hra, b12⟩
            have HRA := Kept.mk hra
            have XCw := Kept.mk (heap_keep XCw.out b12)
            have XPw := Kept.mk (heap_keep XPw.out b12)
            have HMw := Kept.mk (HMw.out.past b12)
            have HST := Kept.mk (HST.out.past b12)
            have HB := Kept.mk (HB.out.trans (b12.mono HB.out.size))
            have HNA := Kept.mk hna
            have Y9 := fun j => cell_of_row w12 w9.heap.size j _ _ _ XCw.out
            have Y6 := fun j => cell_of_row w12 w6.heap.size j _ _ _ XPw.out
            simp only [Prg.cs] at Y6
            clear hra b12
            go_wp2_with fail
            refine (real_ref_at (⟨pW, pwin, pfuel, pr0, pr1, pr2, pr3, .slice pmA ml.length pmC, .slice plA plN plC, pA, pN, pC⟩ : Prg) il A0 ([] : List Int) 0 c0 bA m.buf bC i w12 rfl HMw.out.pi HST.out (by omega) HMw.out.cf.buf (by omega)).mono ?_
            rintro en w13 ⟨Ab, nb, cb, bb, xb, rfl, hnb, hrb, b13⟩
            obtain ⟨hba, hxa⟩ := HNA.out
            obtain ⟨hbb, hxb⟩ := hnb
            have HRA := Kept.mk (HRA.out.past b13)
            have HRB := Kept.mk hrb
            have HB := Kept.mk (HB.out.trans (b13.mono HB.out.size))
            have hxx : xa = xb := hxa.1.trans hxb.1.symm
            have hbbx : ba = bb := hba.trans hbb.symm
            have HXA := Kept.mk hxa.2
            have HXB := Kept.mk hxb.2
            have hxl := hxa.2
            have hxl2 : xa.length ≤ 1000000 := by have := real_small hxa.1 (by rw [List.length_nil, List.length_take]; omega); omega
            subst hxx hbbx
            clear hrb b13 hba hxa hbb hxb
            generalize (realOf il ([] : List Int) (m.buf.take i.toNat)).isSome = bz at *
            cases bz
            all_goals
              go_wp2_with fail
              refine (same_ints_at _ _ _ _ _ _ _ _ w13 HXA.out HXB.out HRA.out HRB.out (by have := HXA.out; omega)).mono ?_
              rintro en w14 ⟨rfl, b14⟩
              rw [decide_eq_true (rfl : xa = xa)]
              have HB := Kept.mk (HB.out.trans (b14.mono HB.out.size))
              clear b14
              go_wp2_with fail
              exact ⟨⟨1 + 1, by omega, by go_num, HB.out⟩, by simp [intOf]⟩
          · go_wp2_with fail
            exact ⟨⟨i + 1, by go_num, by omega, by omega, HB.out⟩, by simp [intOf] <;> omega⟩
      · go_wp2_with fail
        refine (HAW.out _).mono ?_
        rintro en w11 ⟨rfl, b11⟩
        have WX := Kept.mk ((W10.out.trans (HB.out.mono W10.out.size)).trans (b11.mono (by have := HB.out.size; have := W10.out.size; omega)))
        clear b11
        go_wp2_with fail
        go_ret
        exact ⟨rfl, WX.out⟩
theorem rtells_law (A0 : Option Addr) (c0 : Nat) (raw : List Int) (pc : Int) (A2 : Option Addr) (c2 : Nat) (mk : List Int) (A3 : Option Addr) (c3 : Nat) (l : List Int) (A4 : Option Addr) (c4 : Nat) (wk : List Int) (w : World) (hc0 : raw.length ≤ c0) (_hm0 : c0 ≤ maxLen) (hr0 : RdI w A0 raw) (_ok0 : ∀ x ∈ raw, -9223372036854775808 ≤ x ∧ x ≤ 9223372036854775807) (_hpc : -9223372036854775808 ≤ pc ∧ pc ≤ 9223372036854775807)
    (_hc2 : mk.length ≤ c2) (_hm2 : c2 ≤ maxLen) (hr2 : RdI w A2 mk) (_ok2 : ∀ x ∈ mk, -9223372036854775808 ≤ x ∧ x ≤ 9223372036854775807) (_hc3 : l.length ≤ c3) (_hm3 : c3 ≤ maxLen) (hr3 : RdI w A3 l) (_ok3 : ∀ x ∈ l, -9223372036854775808 ≤ x ∧ x ≤ 9223372036854775807) (_hc4 : wk.length ≤ c4) (_hm4 : c4 ≤ maxLen) (hr4 : RdI w A4 wk) (_ok4 : ∀ x ∈ wk, -9223372036854775808 ≤ x ∧ x ≤ 9223372036854775807) :
    Calls Try.prog 3 #[.slice A0 raw.length c0, .int .i64 pc, .slice A2 mk.length c2, .slice A3 l.length c3, .slice A4 wk.length c4] w (SaysTrue w) := rtells_walk A0 c0 raw pc A2 c2 mk A3 c3 l A4 c4 wk w hc0 hr0 hr2 hr3 hr4
end Go.Proofs.Ytchldbkjapnlcaa
