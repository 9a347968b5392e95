/- The law ConfOwn: a machine that was begun, or read, is its own. -/
import Derived.Test.YtchldbkjapnlcaaJAwa13
import Derived.Test.YtchldbkjapnlcaaJAdr
import Derived.Test.YtchldbkjapnlcaaJl
import Derived.Deep.DeepCutAuto
import Derived.BigQuiet
set_option linter.unusedVariables false
set_option linter.unusedSimpArgs false
namespace Go.Proofs.Ytchldbkjapnlcaa
open Go.RowKit

theorem own_set_int13 {w : World} {B g n c : Nat} {l : List Int} (h : OwnI w B (.slice (some ⟨g, 0, none⟩) n c) l) (k : Nat) (hk : k < l.length) (v : Int) : OwnI (w.setCell ⟨g, k, none⟩ (.int .i64 v)) B (.slice (some ⟨g, 0, none⟩) n c) (l.set k v) := by
  obtain ⟨g', e, _, _, _, _, h⟩ := OwnI.elS h hk v
  injection e with e
  injection e with e _ _
  subst e
  exact h
theorem OwnB.elS {w : World} {B : Nat} {A : Option Addr} {n c : Nat} {l : List UInt8} (h : OwnB w B (.slice A n c) l) {k : Nat} (hk : k < l.length) (v : UInt8) :
    ∃ g, A = some ⟨g, 0, none⟩ ∧ B ≤ g ∧ w.cell? ⟨g, k, none⟩ = some (.int .u8 l[k].toNat) ∧ w.frozen? ⟨g, k, none⟩ = false ∧ OwnB (w.setCell ⟨g, k, none⟩ (.int .u8 v.toNat)) B (.slice A n c) (l.set k v) := by
  obtain ⟨g, cap, hv, hb, hlt⟩ := World.ownsRow.form h (by omega)
  injection hv with e1 e2 e3
  subst e1 e2 e3
  refine ⟨g, rfl, hb, ?_, World.ownsRow.frozenAt h k, ?_⟩
  · rw [World.ownsRow.cellAt h k (by omega)]
    simp [bytCs, hk]
  · have := (World.ownsRow.stored h k (.int .u8 v.toNat)).1
    unfold OwnB
    rw [List.length_set]
    simpa [bytCs, List.map_set] using this
theorem own_set_byte {w : World} {B g n c : Nat} {l : List UInt8} (h : OwnB w B (.slice (some ⟨g, 0, none⟩) n c) l) (k : Nat) (hk : k < l.length) (v : UInt8) : OwnB (w.setCell ⟨g, k, none⟩ (.int .u8 v.toNat)) B (.slice (some ⟨g, 0, none⟩) n c) (l.set k v) := by
  obtain ⟨g', e, _, _, _, h⟩ := OwnB.elS h hk v
  injection e with e
  injection e with e _ _
  subst e
  exact h
theorem u8_succ (x : UInt8) : IntKind.u8.wrap ((x.toNat : Int) + 1) = ((x + 1).toNat : Int) := by
  have := x.toNat_lt
  rw [UInt8.toNat_add]
  rw [IntKind.wrap_u8]
  simp
set_option maxRecDepth 100000 in
set_option maxHeartbeats 3000000 in
theorem cown_walk (A2 : Option Addr) (c2 : Nat) (mk : List Int) (A3 : Option Addr) (c3 : Nat) (l : List Int) (A4 : Option Addr) (c4 : Nat) (wk : List Int) (w : World) (hr2 : RdI w A2 mk) (hr3 : RdI w A3 l) (hr4 : RdI w A4 wk) :
    Calls Try.prog 15 #[.slice A2 mk.length c2, .slice A3 l.length c3, .slice A4 wk.length c4] w (SaysTrue w) := by
  have HAW := Kept.mk awake13
  have HR2 := Kept.mk hr2
  have HR3 := Kept.mk hr3
  have HR4 := Kept.mk hr4
  clear hr2 hr3 hr4
  go_enter Try.func15, Try.ntmps15
  go_wp2_with fail
  refine (make_at A2 mk mk.length c2 w rfl HR2.out).mono ?_
  rintro en w6 ⟨p, il, ml, rfl, hmk, b6⟩
  have W6 := Kept.mk b6
  obtain ⟨pmA, pmC, hpm, -, -⟩ := hmk.mem
  obtain ⟨plA, plN, plC, hpl⟩ := hmk.lab
  obtain ⟨pW, pwin, pfuel, pr0, pr1, pr2, pr3, pmems, plabels, pA, pN, pC⟩ := p
  simp only at hpm hpl
  subst hpm hpl
  have HMK := Kept.mk hmk
  clear hmk b6
  obtain ⟨HPM, hPM⟩ : ∃ x : Kept (ProgOk pW pwin il), x = x := ⟨⟨make_prog HMK.out⟩, rfl⟩
  clear hPM
  go_wp2_with fail
  have ba := below_alloc_self w6 (.cells (Prg.cs (⟨pW, pwin, pfuel, pr0, pr1, pr2, pr3, .slice pmA ml.length pmC, .slice plA plN plC, pA, pN, pC⟩ : Prg)).toArray 33)
  refine (states_mach (⟨pW, pwin, pfuel, pr0, pr1, pr2, pr3, .slice pmA ml.length pmC, .slice plA plN plC, pA, pN, pC⟩ : Prg) il ml A3 l l.length c3 (w6.alloc (.cells (Prg.cs (⟨pW, pwin, pfuel, pr0, pr1, pr2, pr3, .slice pmA ml.length pmC, .slice plA plN plC, pA, pN, pC⟩ : Prg)).toArray 33)) rfl (HMK.out.past ba) (HR3.out.past (W6.out.trans (ba.mono W6.out.size)))).mono ?_
  rintro en w7 ⟨s, t, ms, mt, rfl, hs, ht, b7⟩
  have XP := Kept.mk (heap_keep (heap_alloc_new w6 (.cells (Prg.cs (⟨pW, pwin, pfuel, pr0, pr1, pr2, pr3, .slice pmA ml.length pmC, .slice plA plN plC, pA, pN, pC⟩ : Prg)).toArray 33)) b7)
  have W7 := Kept.mk ((W6.out.trans (ba.mono W6.out.size)).trans (b7.mono (by have := W6.out.size; simp; omega)))
  have HMK := Kept.mk ((HMK.out.past ba).past b7)
  have HS := Kept.mk hs
  have HT := Kept.mk ht
  clear hs ht b7 ba
  obtain ⟨s0, s1, s2, s3, ⟨sA, sN, sC⟩, ⟨uA, uN, uC⟩, s6⟩ := s
  obtain ⟨t0, t1, t2, t3, ⟨tA, tN, tC⟩, ⟨vA, vN, vC⟩, t6⟩ := t
  go_upto_region 3 with (fail)
  have bb := (below_alloc_self w7 (.cells #[.int .i64 s0, .int .i64 s1, .int .i64 s2, .int .i64 s3, .slice sA sN sC, .slice uA uN uC, .int .i64 s6] 36)).alloc (by simp) (.cells #[.int .i64 t0, .int .i64 t1, .int .i64 t2, .int .i64 t3, .slice tA tN tC, .slice vA vN vC, .int .i64 t6] 36)
  have XS := Kept.mk ((heap_alloc_old _ _ (by simp)).trans (heap_alloc_new w7 (.cells #[.int .i64 s0, .int .i64 s1, .int .i64 s2, .int .i64 s3, .slice sA sN sC, .slice uA uN uC, .int .i64 s6] 36)) : ((w7.alloc (.cells #[.int .i64 s0, .int .i64 s1, .int .i64 s2, .int .i64 s3, .slice sA sN sC, .slice uA uN uC, .int .i64 s6] 36)).alloc (.cells #[.int .i64 t0, .int .i64 t1, .int .i64 t2, .int .i64 t3, .slice tA tN tC, .slice vA vN vC, .int .i64 t6] 36)).heap[w7.heap.size]? = some (.cells #[.int .i64 s0, .int .i64 s1, .int .i64 s2, .int .i64 s3, .slice sA sN sC, .slice uA uN uC, .int .i64 s6] 36))
  have XT := Kept.mk (heap_alloc2_new w7 (.cells #[.int .i64 s0, .int .i64 s1, .int .i64 s2, .int .i64 s3, .slice sA sN sC, .slice uA uN uC, .int .i64 s6] 36) (.cells #[.int .i64 t0, .int .i64 t1, .int .i64 t2, .int .i64 t3, .slice tA tN tC, .slice vA vN vC, .int .i64 t6] 36))
  have XP := Kept.mk (heap_keep XP.out bb)
  have W8 := Kept.mk (W7.out.trans (bb.mono W7.out.size))
  have HMK := Kept.mk (HMK.out.past bb)
  have HS := Kept.mk (HS.out.past bb)
  have HT := Kept.mk (HT.out.past bb)
  clear bb
  generalize (w7.alloc (.cells #[.int .i64 s0, .int .i64 s1, .int .i64 s2, .int .i64 s3, .slice sA sN sC, .slice uA uN uC, .int .i64 s6] 36)).alloc (.cells #[.int .i64 t0, .int .i64 t1, .int .i64 t2, .int .i64 t3, .slice tA tN tC, .slice vA vN vC, .int .i64 t6] 36) = w8 at *
  have Y6 := fun j => cell_of_row w8 w6.heap.size j _ _ _ XP.out
  have Y7 := fun j => cell_of_row w8 w7.heap.size j _ _ _ XS.out
  simp only [Prg.cs] at Y6
  go_wp2_with fail
  refine (begin_ref (⟨s0, s1, s2, s3, ⟨sA, sN, sC⟩, ⟨uA, uN, uC⟩, s6⟩ : Stt) w8).mono ?_
  rintro en wa ⟨rfl, ba⟩
  have HC0 := Kept.mk (fun w1 (hb : Below w8.heap.size w8 w1) => code9 (⟨(⟨s0, s1, s2, s3, ⟨sA, sN, sC⟩, ⟨uA, uN, uC⟩, s6⟩ : Stt), Sl.none, Sl.none, 0⟩ : Cnf) ⟨ms, [], [], 0⟩ w1 ⟨HS.out.st.past hb, RdEs.nil, RdIs.nil, rfl⟩ HS.out.ok.ml (by rw [HS.out.ok.stack]; decide) (by show ([] : List Ent).length ≤ 1000; decide) (by show ([] : List Int).length ≤ 1000; decide))
  generalize cfInts ⟨ms, [], [], 0⟩ = L0 at HC0
  have HB := Kept.mk ba
  clear ba Y6 Y7
  go_wp2_with fail
  refine (HC0.out wa HB.out).mono ?_
  rintro en wb ⟨v2, rfl, o2, bm⟩
  obtain ⟨A2', c2', rfl, -, r2⟩ := OwnB.shape o2
  have hst := run_string (w := wb) (c := c2') r2 rfl
  have hb := HB.out.trans (bm.mono HB.out.size)
  have Y7 := fun j => cell_of_row wb w7.heap.size j _ _ _ (heap_keep XS.out hb)
  have HB := Kept.mk hb
  clear o2 r2 bm hb
  go_wp2_with fail
  refine (cbegin_any (⟨s0, s1, s2, s3, ⟨sA, sN, sC⟩, ⟨uA, uN, uC⟩, s6⟩ : Stt) ms wb (HS.out.st.past HB.out) HS.out.ok.ml (by rw [HS.out.ok.stack]; decide)).mono ?_
  rintro en wc ⟨cb, rfl, hcb, bm⟩
  obtain ⟨e0, e1, e2, e3, ⟨emA, emN, emC⟩, ⟨esA, esN, esC⟩, epc⟩ := cb
  clear hst Y7
  go_upto_region 5 with (fail)
  have bX := below_alloc_self wc (.cells #[.int .i64 e0, .int .i64 e1, .int .i64 e2, .int .i64 e3, .slice emA emN emC, .slice esA esN esC, .int .i64 epc, .slice none 0 0, .slice none 0 0, .int .i64 0] 41)
  have XE := heap_alloc_new wc (.cells #[.int .i64 e0, .int .i64 e1, .int .i64 e2, .int .i64 e3, .slice emA emN emC, .slice esA esN esC, .int .i64 epc, .slice none 0 0, .slice none 0 0, .int .i64 0] 41)
  have ho := OwnI.past hcb.mem bX
  have hml : ms.mem.length = emN := (OwnI.is (s := ⟨emA, emN, emC⟩) ho).n.symm
  have hmx := HS.out.ok.ml
  have hSE : wb.heap.size ≤ wc.heap.size := bm.size
  have hb := (HB.out.trans (bm.mono HB.out.size)).trans (bX.mono (Nat.le_trans HB.out.size bm.size))
  have h8b := HB.out.size
  clear bX bm hcb HB
  generalize wc.alloc (.cells #[.int .i64 e0, .int .i64 e1, .int .i64 e2, .int .i64 e3, .slice emA emN emC, .slice esA esN esC, .int .i64 epc, .slice none 0 0, .slice none 0 0, .int .i64 0] 41) = wd at *
  obtain ⟨S11, hS11⟩ : ∃ S, wc.heap.size = S := ⟨_, rfl⟩
  rw [hS11] at XE ⊢
  clear hS11 hSE
  have Y1 := fun j => cell_of_row wd S11 j _ _ _ XE
  go_wp2_with fail
  go_loopw [38] (fun i wr => ∃ (k : Nat) (lst : List Int), i = .int .i64 ((k : Nat) : Int) ∧ k ≤ emN ∧ lst.length = emN ∧ OwnI wr wb.heap.size (.slice emA emN emC) lst ∧ wr.heap[S11]? = some (.cells #[.int .i64 e0, .int .i64 e1, .int .i64 e2, .int .i64 e3, .slice emA emN emC, .slice esA esN esC, .int .i64 epc, .slice none 0 0, .slice none 0 0, .int .i64 0] 41 (0, 0)) ∧ Below w8.heap.size w8 wr) (fun i _ => emN - (intOf i).toNat)
  case atStart => exact ⟨0, _, rfl, Nat.zero_le _, hml, ho, XE, hb⟩
  case round =>
    clear ho XE hb Y1
    obtain ⟨k, lst, rfl, hk, hll, ho, hx1, hb1⟩ := hrel
    by_cases hlt : k < emN
    · have hki : (k : Int) < (emN : Int) := by omega
      have wk1 : IntKind.i64.wrap ((k : Int) + 1) = (k : Int) + 1 := IntWalk.i64_in _ (by omega)
      have hlen : k < lst.length := by omega
      obtain ⟨g, rfl, hgB, ⟨cur, hcur⟩, hcell, hfr, -⟩ := OwnI.elS ho hlen 0
      have hgS : g ≠ S11 := fun e => by subst e; rw [hx1] at hcur; injection hcur with hcur; injection hcur with _ h2; exact absurd h2 (by decide)
      have hOS := Kept.mk (fun v : Int => own_set_int13 ho k hlen v)
      have HX := Kept.mk hx1
      have HBL := Kept.mk hb1
      have Y1 := fun j => cell_of_row wr S11 j _ _ _ hx1
      generalize hv : IntKind.i64.wrap (lst[k] + 1) = nv at *
      clear ho hx1 hb1 hcur
      go_wp2_with fail
      go_roundw
      case rel => exact ⟨k + 1, _, by go_num, by omega, by rw [List.length_set]; exact hll, hOS.out nv, heap_set_far HX.out hgS, Below.setCell HBL.out (p := ⟨g, k, none⟩) (Nat.le_trans h8b hgB) _⟩
      case measure => simp [intOf]; omega
    · have hki : ¬ (k : Int) < (emN : Int) := by omega
      clear hlt ho hx1 hml hll
      generalize wr = w8q at *
      have XP := Kept.mk (heap_keep XP.out hb1)
      have XS := Kept.mk (heap_keep XS.out hb1)
      have W8 := Kept.mk (W8.out.trans (hb1.mono W8.out.size))
      have HMK := Kept.mk (HMK.out.past hb1)
      have HS := Kept.mk (HS.out.past hb1)
      have HC0 := Kept.mk (fun w1 (hb : Below w8q.heap.size w8q w1) => HC0.out w1 (hb1.trans (hb.mono hb1.size)))
      have XSK := Kept.mk XS.out
      clear hb1
      have Y6 := fun j => cell_of_row w8q w6.heap.size j _ _ _ XP.out
      have Y7 := fun j => cell_of_row w8q w7.heap.size j _ _ _ XS.out
      simp only [Prg.cs] at Y6
      go_wp2_with fail
      refine (walk_mach (⟨pW, pwin, pfuel, pr0, pr1, pr2, pr3, .slice pmA ml.length pmC, .slice plA plN plC, pA, pN, pC⟩ : Prg) il ml ⟨s0, s1, s2, s3, ⟨sA, sN, sC⟩, ⟨uA, uN, uC⟩, s6⟩ ms A4 wk wk.length c4 w8q rfl HMK.out HS.out (HR4.out.past W8.out)).mono ?_
      rintro en w9 ⟨c, m, dv, out, k, rfl, hm, hd, hwo, b9⟩
      obtain ⟨dA, dC, rfl, -, -⟩ := hd.shape
      have W9 := Kept.mk (W8.out.trans (b9.mono W8.out.size))
      have XP := Kept.mk (heap_keep XP.out b9)
      have HM := Kept.mk hm
      have HWO := Kept.mk hwo
      have HSO := Kept.mk HS.out.ok
      have B89 := Kept.mk b9
      clear hd hwo b9 hm Y6 Y7 HS HMK XS
      obtain ⟨⟨r0, r1, r2, r3, ⟨mA, mN, mC⟩, ⟨kA, kN, kC⟩, cpc⟩, ⟨bA, bN, bC⟩, ⟨qA, qN, qC⟩, fin⟩ := c
      have hbn : bN = m.buf.length := HM.out.cf.buf.n
      have hkn : kN = m.st.stack.length := HM.out.cf.st.stack.n
      have hmn : mN = m.st.mem.length := HM.out.cf.st.mem.n
      have hqn : qN = m.rsb.length := HM.out.cf.rsb.n
      subst hbn hkn hmn hqn
      have HF := Kept.mk (inv_fit HM.out.ok HM.out.inv (Nat.le_trans HM.out.kl (by decide)) HM.out.ll)
      go_upto_region 11 with (fail)
      have bc := below_alloc_self w9 (.cells #[.int .i64 r0, .int .i64 r1, .int .i64 r2, .int .i64 r3, .slice mA m.st.mem.length mC, .slice kA m.st.stack.length kC, .int .i64 cpc, .slice bA m.buf.length bC, .slice qA m.rsb.length qC, .int .i64 fin] 41)
      have XC := Kept.mk (heap_alloc_new w9 (.cells #[.int .i64 r0, .int .i64 r1, .int .i64 r2, .int .i64 r3, .slice mA m.st.mem.length mC, .slice kA m.st.stack.length kC, .int .i64 cpc, .slice bA m.buf.length bC, .slice qA m.rsb.length qC, .int .i64 fin] 41))
      have XP := Kept.mk (heap_keep XP.out bc)
      have W10 := Kept.mk (W9.out.trans (bc.mono W9.out.size))
      have HM := Kept.mk (HM.out.past bc)
      have B80 := Kept.mk (B89.out.trans (bc.mono B89.out.size))
      clear bc
      generalize w9.alloc (.cells #[.int .i64 r0, .int .i64 r1, .int .i64 r2, .int .i64 r3, .slice mA m.st.mem.length mC, .slice kA m.st.stack.length kC, .int .i64 cpc, .slice bA m.buf.length bC, .slice qA m.rsb.length qC, .int .i64 fin] 41) = w10 at *
      have HK := keepsA (L := ms.mem.length) HM.out.ok HM.out.ll
      obtain ⟨k', hk', hik⟩ := walk_keeps HK (wk.take 60) 0 _ ⟨inv_start HM.out.ok.win.1 HSO.out, fun _ he => (by cases he)⟩
      rw [← HWO.out] at hik
      have h64 := ints_64 HM.out.ok HM.out.inv hik.2 HM.out.ll (Nat.le_trans HM.out.kl (by decide))
      have HCP := Kept.mk (fun w1 (hb : Below w10.heap.size w10 w1) => conf_code (⟨⟨r0, r1, r2, r3, ⟨mA, m.st.mem.length, mC⟩, ⟨kA, m.st.stack.length, kC⟩, cpc⟩, ⟨bA, m.buf.length, bC⟩, ⟨qA, m.rsb.length, qC⟩, fin⟩ : Cnf) m w1 (HM.out.past hb).cf h64 (Nat.le_trans HF.out.ml (by decide)) (Nat.le_trans HF.out.sl (by decide)) (Nat.le_trans HF.out.bl (by decide)) (Nat.le_trans HF.out.rl (by decide)))
      have HCR := Kept.mk (fun w1 (hb : Below w10.heap.size w10 w1) => code9 (⟨⟨r0, r1, r2, r3, ⟨mA, m.st.mem.length, mC⟩, ⟨kA, m.st.stack.length, kC⟩, cpc⟩, ⟨bA, m.buf.length, bC⟩, ⟨qA, m.rsb.length, qC⟩, fin⟩ : Cnf) m w1 (HM.out.past hb).cf HF.out.ml HF.out.sl HF.out.bl HF.out.rl)
      have hLL : (cfInts m).length ≤ 10010 := by rw [cfInts_length]; have := HM.out.buf_len; have := HF.out.ml; have := HF.out.sl; have := HF.out.rl; omega
      have hL2 := (putL_length_le (cfInts m)).2
      have HPM : Kept (∀ b : List UInt8, b = putL (cfInts m) → ∀ m' : Conf, (∀ x ∈ cfInts m', I64 x) → putL (cfInts m') = b → m' = m) := ⟨fun b hb m' h1 h2 => cfInts_inj (putL_inj _ _ h1 h64 (h2.trans hb))⟩
      have H64 := Kept.mk h64
      clear HK hk' hik h64
      have Y9 := fun j => cell_of_row w10 w9.heap.size j _ _ _ XC.out
      go_wp2_with fail
      refine (HCP.out w10 (Below.refl _ _)).mono ?_
      rintro en w11 ⟨vb, rfl, ob, b11⟩
      obtain ⟨bA', bC', rfl, hbc, rb⟩ := OwnB.shape ob
      have HOB := Kept.mk ob
      have HB11 := Kept.mk b11
      clear ob b11 Y9
      go_wp2_with fail
      refine (parse_any bA' (putL (cfInts m)).length bC' (putL (cfInts m)) w11 rfl hbc rb (by omega)).mono ?_
      rintro en w12 ⟨cy, ok, rfl, b12, hy, hn⟩
      have hok : ok = true := by
        cases ok with
        | true => rfl
        | false => exact absurd rfl ((hn rfl).2 m H64.out)
      subst hok
      obtain ⟨my, hcy, hoy, hput, h64y, -⟩ := hy rfl
      obtain rfl := (HPM.out _ rfl my h64y hput).symm
      obtain ⟨⟨y0, y1, y2, y3, ⟨ymA, ymN, ymC⟩, ⟨ysA, ysN, ysC⟩, ypc⟩, ⟨ybA, ybN, ybC⟩, ⟨yqA, yqN, yqC⟩, yf⟩ := cy
      have hyn : m.buf.length = ybN := hcy.buf.n.symm
      have hyb : ybN ≤ 3 := by have := HM.out.buf_len; omega
      clear hy hn hput h64y hcy rb
      generalize cfInts m = L at *
      go_upto_region 13 with (fail)
      have bX := below_alloc_self w12 (.cells #[.int .i64 y0, .int .i64 y1, .int .i64 y2, .int .i64 y3, .slice ymA ymN ymC, .slice ysA ysN ysC, .int .i64 ypc, .slice ybA ybN ybC, .slice yqA yqN yqC, .int .i64 yf] 41)
      have X16 := heap_alloc_new w12 (.cells #[.int .i64 y0, .int .i64 y1, .int .i64 y2, .int .i64 y3, .slice ymA ymN ymC, .slice ysA ysN ysC, .int .i64 ypc, .slice ybA ybN ybC, .slice yqA yqN yqC, .int .i64 yf] 41)
      have hoy := OwnE.past hoy bX
      have hb := b12.trans (bX.mono b12.size)
      clear bX b12
      generalize w12.alloc (.cells #[.int .i64 y0, .int .i64 y1, .int .i64 y2, .int .i64 y3, .slice ymA ymN ymC, .slice ysA ysN ysC, .int .i64 ypc, .slice ybA ybN ybC, .slice yqA yqN yqC, .int .i64 yf] 41) = wd at *
      obtain ⟨S16, hS16⟩ : ∃ S, w12.heap.size = S := ⟨_, rfl⟩
      rw [hS16] at X16 ⊢
      clear hS16
      have Y1 := fun j => cell_of_row wd S16 j _ _ _ X16
      go_wp2_with fail
      go_loopw [67] (fun i wr => ∃ (k : Nat) (lst : List Ent), i = .int .i64 ((k : Nat) : Int) ∧ k ≤ ybN ∧ lst.length = ybN ∧ OwnE wr w11.heap.size (.slice ybA ybN ybC) lst ∧ wr.heap[S16]? = some (.cells #[.int .i64 y0, .int .i64 y1, .int .i64 y2, .int .i64 y3, .slice ymA ymN ymC, .slice ysA ysN ysC, .int .i64 ypc, .slice ybA ybN ybC, .slice yqA yqN yqC, .int .i64 yf] 41 (0, 0)) ∧ Below w11.heap.size w11 wr) (fun i _ => ybN - (intOf i).toNat)
      case atStart => exact ⟨0, _, rfl, Nat.zero_le _, hyn, hoy, X16, hb⟩
      case round =>
        clear hoy X16 hb Y1
        obtain ⟨k, lst, rfl, hk, hll, ho, hx1, hb1⟩ := hrel
        by_cases hlt : k < ybN
        · have hki : (k : Int) < (ybN : Int) := by omega
          have wk1 : IntKind.i64.wrap ((k : Int) + 1) = (k : Int) + 1 := IntWalk.i64_in _ (by omega)
          have hlen : k < lst.length := by omega
          obtain ⟨g, rfl, hgB, hgs, EA, hfa⟩ := OwnE.elem ho hlen
          obtain ⟨cur, hcur⟩ := OwnE.tagged ho (by omega)
          have hgS : g ≠ S16 := fun e => by subst e; rw [hx1] at hcur; injection hcur with hcur; injection hcur with _ h2; exact absurd h2 (by decide)
          obtain ⟨-, q1, -⟩ := EA
          have hfr := hfa (k * 8 + 1)
          have hOS := Kept.mk (fun v : Int => OwnE.setAt ho hll.symm hlen (j := 1) (u := .int .i64 v) (e' := { lst[k] with val := v }) (by decide) rfl)
          have HX := Kept.mk hx1
          have HBL := Kept.mk hb1
          have Y1 := fun j => cell_of_row wr S16 j _ _ _ hx1
          generalize hv : IntKind.i64.wrap (lst[k].val + 1) = nv at *
          clear ho hx1 hb1 hcur hfa
          go_wp2_with fail
          go_roundw
          case rel => exact ⟨k + 1, _, by go_num, by omega, by rw [List.length_set]; exact hll, hOS.out nv, heap_set_far HX.out hgS, Below.setCell HBL.out (p := ⟨g, k * 8 + 1, none⟩) hgB _⟩
          case measure => simp [intOf]; omega
        · have hki : ¬ (k : Int) < (ybN : Int) := by omega
          have hob := HOB.out.past hb1
          have hb := HB11.out.trans (hb1.mono HB11.out.size)
          clear hlt ho hx1 hll hb1 HOB HB11
          generalize hnb : (putL L).length = nB at *
          go_wp2_with fail
          go_loopw [82] (fun i wq => ∃ (k : Nat) (lst : List UInt8), i = .int .i64 ((k : Nat) : Int) ∧ k ≤ nB ∧ lst.length = nB ∧ OwnB wq w10.heap.size (.slice bA' nB bC') lst ∧ Below w10.heap.size w10 wq) (fun i _ => nB - (intOf i).toNat)
          case atStart => exact ⟨0, _, rfl, Nat.zero_le _, hnb, hob, hb⟩
          case round =>
            clear hob hb hk hki
            obtain ⟨k, lst, rfl, hk, hll, ho, hb1⟩ := hrel
            by_cases hlt : k < nB
            · have hki : (k : Int) < (nB : Int) := by omega
              have wk1 : IntKind.i64.wrap ((k : Int) + 1) = (k : Int) + 1 := IntWalk.i64_in _ (by omega)
              have hlen : k < lst.length := by omega
              obtain ⟨g, rfl, hgB, hcell, hfr, -⟩ := OwnB.elS ho hlen 0
              have hOS := Kept.mk (fun x : UInt8 => own_set_byte ho k hlen x)
              have hw8 : IntKind.u8.wrap ((lst[k].toNat : Int) + 1) = ((lst[k] + 1).toNat : Int) := u8_succ _
              have HBL := Kept.mk hb1
              generalize lst[k] + 1 = nx at *
              clear ho hb1
              go_wp2_with fail
              go_roundw
              case rel => exact ⟨k + 1, _, by go_num, by omega, by rw [List.length_set]; exact hll, hOS.out nx, Below.setCell HBL.out (p := ⟨g, k, none⟩) hgB _⟩
              case measure => simp [intOf]; omega
            · have hki : ¬ (k : Int) < (nB : Int) := by omega
              clear hlt ho hll
              have HB := Kept.mk hb1
              generalize wr = wl at *
              have B8L := Kept.mk (B80.out.trans (hb1.mono B80.out.size))
              have XKS : Kept (∀ w1, Below wl.heap.size wl w1 → CellsAt w1 w7.heap.size 0 [.int .i64 (s0), .int .i64 (s1), .int .i64 (s2), .int .i64 (s3), .slice sA sN sC, .slice uA uN uC, .int .i64 (s6)]) := ⟨fun w1 hb => CellsAt.of_block (heap_keep (heap_keep XSK.out B8L.out) hb)⟩
              have XKC : Kept (∀ w1, Below wl.heap.size wl w1 → CellsAt w1 w9.heap.size 0 [.int .i64 (r0), .int .i64 (r1), .int .i64 (r2), .int .i64 (r3), .slice mA m.st.mem.length mC, .slice kA m.st.stack.length kC, .int .i64 (cpc), .slice bA m.buf.length bC, .slice qA m.rsb.length qC, .int .i64 (fin)]) := ⟨fun w1 hb => CellsAt.of_block (heap_keep (heap_keep XC.out HB.out) hb)⟩
              have HC0 : Kept (∀ w1, Below wl.heap.size wl w1 → Calls Try.prog 34 #[Cnf.v (⟨(⟨s0, s1, s2, s3, ⟨sA, sN, sC⟩, ⟨uA, uN, uC⟩, s6⟩ : Stt), Sl.none, Sl.none, 0⟩ : Cnf)] w1 (GivesB w1 (putL L0))) := ⟨fun w1 hb => HC0.out w1 (B8L.out.trans (hb.mono B8L.out.size))⟩
              have HCP : Kept (∀ w1, Below wl.heap.size wl w1 → Calls Try.prog 52 #[Cnf.v (⟨⟨r0, r1, r2, r3, ⟨mA, m.st.mem.length, mC⟩, ⟨kA, m.st.stack.length, kC⟩, cpc⟩, ⟨bA, m.buf.length, bC⟩, ⟨qA, m.rsb.length, qC⟩, fin⟩ : Cnf)] w1 (GivesB w1 (putL L))) := ⟨fun w1 hb => HCP.out w1 (HB.out.trans (hb.mono HB.out.size))⟩
              have HCR : Kept (∀ w1, Below wl.heap.size wl w1 → Calls Try.prog 34 #[Cnf.v (⟨⟨r0, r1, r2, r3, ⟨mA, m.st.mem.length, mC⟩, ⟨kA, m.st.stack.length, kC⟩, cpc⟩, ⟨bA, m.buf.length, bC⟩, ⟨qA, m.rsb.length, qC⟩, fin⟩ : Cnf)] w1 (GivesB w1 (putL L))) := ⟨fun w1 hb => HCR.out w1 (HB.out.trans (hb.mono HB.out.size))⟩
              clear hb1
              go_upto_region 23 with (fail)
              refine region_tell (wl.heap.size) (G := fun _ => True) (ts := [
                  .is (Value.bool true),
                  .is (Value.bool true),
                  .is (Stt.v (⟨s0, s1, s2, s3, ⟨sA, sN, sC⟩, ⟨uA, uN, uC⟩, s6⟩ : Stt)),
                  .draws (Cnf.v (⟨(⟨s0, s1, s2, s3, ⟨sA, sN, sC⟩, ⟨uA, uN, uC⟩, s6⟩ : Stt), Sl.none, Sl.none, 0⟩ : Cnf)),
                  .makes (fun v w' => OwnB w' wl.heap.size v (putL L0)),
                  .is (.string ⟨(putL L0).toArray⟩),
                  .is (Value.string ⟨(putL L0).toArray⟩),
                  .is (.bool true),
                  .is (Value.bool true),
                  .is (Value.bool true),
                  .is (Value.agg #[.int .i64 (r0), .int .i64 (r1), .int .i64 (r2), .int .i64 (r3), .slice mA m.st.mem.length mC, .slice kA m.st.stack.length kC, .int .i64 (cpc), .slice bA m.buf.length bC, .slice qA m.rsb.length qC, .int .i64 (fin)]),
                  .makes (fun v w' => OwnB w' wl.heap.size v (putL L)),
                  .is (Value.agg #[.int .i64 (r0), .int .i64 (r1), .int .i64 (r2), .int .i64 (r3), .slice mA m.st.mem.length mC, .slice kA m.st.stack.length kC, .int .i64 (cpc), .slice bA m.buf.length bC, .slice qA m.rsb.length qC, .int .i64 (fin)]),
                  .makes (fun v w' => OwnB w' wl.heap.size v (putL L)),
                  .draws (.bool true),
                  .is (Value.bool true),
                  .is (Value.bool true),
                  .draws (.bool true),
                  .is (Value.bool true),
                  .is (Value.bool true)])
                (fin := []) (cs := []) (by kernel_rfl) rfl (by kernel_rfl) (by kernel_rfl)
                ⟨trivial, trivial, trivial, trivial, (fun _ _ _ h hb => OwnB.past h hb), trivial, trivial, trivial, trivial, trivial, trivial, (fun _ _ _ h hb => OwnB.past h hb), trivial, (fun _ _ _ h hb => OwnB.past h hb), trivial, trivial, trivial, trivial, trivial, trivial, trivial⟩ (fun _ _ _ _ => trivial) (by simp) (by simp) trivial
                ⟨?_, ?_, ?_, ?_, ?_, ?_, ?_, ?_, ?_, ?_, ?_, ?_, ?_, ?_, ?_, ?_, ?_, ?_, ?_, ?_, trivial⟩ ?_
              · intro vals w1 hB _ hd
                clear hd
                refine one_value (v := Value.bool true) rfl ?_ (post_is rfl)
                kernel_rfl
              · intro vals w1 hB _ hd
                clear hd
                refine one_value (v := Value.bool true) rfl ?_ (post_is rfl)
                kernel_rfl
              · intro vals w1 hB _ hd
                clear hd
                refine one_value_g (v := Stt.v (⟨s0, s1, s2, s3, ⟨sA, sN, sC⟩, ⟨uA, uN, uC⟩, s6⟩ : Stt)) (by kernel_rfl) ?_ (post_is rfl)
                exact exec_load_row rfl (b := w7.heap.size) (off := 0) (by kernel_rfl) [.int .i64 (s0), .int .i64 (s1), .int .i64 (s2), .int .i64 (s3), .slice sA sN sC, .slice uA uN uC, .int .i64 (s6)] (XKS.out w1 hB) Try.underlying36 rfl (by kernel_rfl)
              · intro vals w1 hB _ hd
                clear hd
                refine one_calls_g (f := 36) (args := #[Stt.v (⟨s0, s1, s2, s3, ⟨sA, sN, sC⟩, ⟨uA, uN, uC⟩, s6⟩ : Stt)]) (w1 := w1) (by kernel_rfl) (by kernel_rfl) ?_
                refine (begin_ref (⟨s0, s1, s2, s3, ⟨sA, sN, sC⟩, ⟨uA, uN, uC⟩, s6⟩ : Stt) w1).mono ?_
                rintro e1 w3 ⟨rfl, hb⟩
                exact ⟨_, rfl, post_draws rfl hb⟩
              · intro vals w1 hB _ hd
                clear hd
                refine one_calls_g (f := 34) (args := #[Cnf.v (⟨(⟨s0, s1, s2, s3, ⟨sA, sN, sC⟩, ⟨uA, uN, uC⟩, s6⟩ : Stt), Sl.none, Sl.none, 0⟩ : Cnf)]) (w1 := w1) (by kernel_rfl) (by kernel_rfl) ?_
                refine (HC0.out w1 hB).mono ?_
                rintro e1 w3 ⟨v3, rfl, ho, hb⟩
                exact ⟨_, rfl, post_makes rfl (OwnB.lower ho hB.size) hb⟩
              · intro vals w1 hB _ hd
                have da : OwnB w1 wl.heap.size (vals 4) (putL L0) := hd 4 (by kernel_rfl)
                clear hd
                obtain ⟨A5, c5, e5, _, r5⟩ := OwnB.shape da
                refine one_value_g (v := .string ⟨(putL L0).toArray⟩) (by kernel_rfl) ?_ (post_is rfl)
                rw [vals_at e5]
                have hst := run_string (w := w1) (c := c5) r5 rfl
                simp only [fillT, Tell.is, Tell.draws, Tell.makes, Tell.gets, Act.put, List.setIfInBounds_toArray, List.set_cons_zero, List.set_cons_succ]
                go_simp
              · intro vals w1 hB _ hd
                clear hd
                refine one_value_g (v := Value.string ⟨(putL L0).toArray⟩) (by kernel_rfl) ?_ (post_is rfl)
                kernel_rfl
              · intro vals w1 hB _ hd
                clear hd
                refine one_value_g (v := .bool true) (by kernel_rfl) ?_ (post_is rfl)
                refine Eq.trans (b := .ok (.value (.bool (((⟨(putL L0).toArray⟩ : ByteArray).toList == (⟨(putL L0).toArray⟩ : ByteArray).toList)))) w1) (by kernel_rfl) ?_
                rw [str_eq, decide_eq_true rfl]
              · intro vals w1 hB _ hd
                clear hd
                refine one_value (v := Value.bool true) rfl ?_ (post_is rfl)
                kernel_rfl
              · intro vals w1 hB _ hd
                clear hd
                refine one_value (v := Value.bool true) rfl ?_ (post_is rfl)
                kernel_rfl
              · intro vals w1 hB _ hd
                clear hd
                refine one_value_g (v := Value.agg #[.int .i64 (r0), .int .i64 (r1), .int .i64 (r2), .int .i64 (r3), .slice mA m.st.mem.length mC, .slice kA m.st.stack.length kC, .int .i64 (cpc), .slice bA m.buf.length bC, .slice qA m.rsb.length qC, .int .i64 (fin)]) (by kernel_rfl) ?_ (post_is rfl)
                exact exec_load_row rfl (b := w9.heap.size) (off := 0) (by kernel_rfl) [.int .i64 (r0), .int .i64 (r1), .int .i64 (r2), .int .i64 (r3), .slice mA m.st.mem.length mC, .slice kA m.st.stack.length kC, .int .i64 (cpc), .slice bA m.buf.length bC, .slice qA m.rsb.length qC, .int .i64 (fin)] (XKC.out w1 hB) Try.underlying41 rfl (by kernel_rfl)
              · intro vals w1 hB _ hd
                clear hd
                refine one_calls_g (f := 52) (args := #[.agg #[.int .i64 (r0), .int .i64 (r1), .int .i64 (r2), .int .i64 (r3), .slice mA m.st.mem.length mC, .slice kA m.st.stack.length kC, .int .i64 (cpc), .slice bA m.buf.length bC, .slice qA m.rsb.length qC, .int .i64 (fin)]]) (w1 := w1) (by kernel_rfl) (by kernel_rfl) ?_
                refine (HCP.out w1 hB).mono ?_
                rintro e1 w3 ⟨v3, rfl, ho, hb⟩
                exact ⟨_, rfl, post_makes rfl (OwnB.lower ho hB.size) hb⟩
              · intro vals w1 hB _ hd
                clear hd
                refine one_value_g (v := Value.agg #[.int .i64 (r0), .int .i64 (r1), .int .i64 (r2), .int .i64 (r3), .slice mA m.st.mem.length mC, .slice kA m.st.stack.length kC, .int .i64 (cpc), .slice bA m.buf.length bC, .slice qA m.rsb.length qC, .int .i64 (fin)]) (by kernel_rfl) ?_ (post_is rfl)
                exact exec_load_row rfl (b := w9.heap.size) (off := 0) (by kernel_rfl) [.int .i64 (r0), .int .i64 (r1), .int .i64 (r2), .int .i64 (r3), .slice mA m.st.mem.length mC, .slice kA m.st.stack.length kC, .int .i64 (cpc), .slice bA m.buf.length bC, .slice qA m.rsb.length qC, .int .i64 (fin)] (XKC.out w1 hB) Try.underlying41 rfl (by kernel_rfl)
              · intro vals w1 hB _ hd
                clear hd
                refine one_calls_g (f := 34) (args := #[.agg #[.int .i64 (r0), .int .i64 (r1), .int .i64 (r2), .int .i64 (r3), .slice mA m.st.mem.length mC, .slice kA m.st.stack.length kC, .int .i64 (cpc), .slice bA m.buf.length bC, .slice qA m.rsb.length qC, .int .i64 (fin)]]) (w1 := w1) (by kernel_rfl) (by kernel_rfl) ?_
                refine (HCR.out w1 hB).mono ?_
                rintro e1 w3 ⟨v3, rfl, ho, hb⟩
                exact ⟨_, rfl, post_makes rfl (OwnB.lower ho hB.size) hb⟩
              · intro vals w1 hB _ hd
                have da : OwnB w1 wl.heap.size (vals 11) (putL L) := hd 11 (by kernel_rfl)
                have db : OwnB w1 wl.heap.size (vals 13) (putL L) := hd 13 (by kernel_rfl)
                clear hd
                obtain ⟨A5, c5, e5, _, r5⟩ := OwnB.shape da
                obtain ⟨A6, c6, e6, _, r6⟩ := OwnB.shape db
                refine one_calls_g (f := 53) (args := #[vals 11, vals 13]) (w1 := w1) (by kernel_rfl) (by kernel_rfl) ?_
                rw [e5, e6]
                refine (same_bytes A5 A6 (putL L).length (putL L).length c5 c6 (putL L) (putL L) w1 rfl rfl r5 r6).mono ?_
                rw [decide_eq_true rfl]
                rintro e1 w3 ⟨rfl, rfl⟩
                exact ⟨_, rfl, post_draws rfl (Below.refl _ _)⟩
              · intro vals w1 hB _ hd
                clear hd
                refine one_value (v := Value.bool true) rfl ?_ (post_is rfl)
                kernel_rfl
              · intro vals w1 hB _ hd
                clear hd
                refine one_value (v := Value.bool true) rfl ?_ (post_is rfl)
                kernel_rfl
              · intro vals w1 hB _ hd
                clear hd
                refine one_calls_g (f := 49) (args := #[]) (w1 := w1) (by kernel_rfl) (by kernel_rfl) ?_
                refine (HAW.out w1).mono ?_
                rintro e1 w3 ⟨rfl, hb⟩
                exact ⟨_, rfl, post_draws rfl hb⟩
              · intro vals w1 hB _ hd
                clear hd
                refine one_value (v := Value.bool true) rfl ?_ (post_is rfl)
                kernel_rfl
              · intro vals w1 hB _ hd
                clear hd
                refine one_value (v := Value.bool true) rfl ?_ (post_is rfl)
                kernel_rfl
              intro vals w15 b15 _ hr
              clear hr
              simp only [fillT, Tell.is, Tell.draws, Tell.makes, Act.put, List.setIfInBounds_toArray, List.set_cons_zero, List.set_cons_succ]
              have W15 := Kept.mk ((W10.out.trans (HB.out.mono W10.out.size)).trans (b15.mono (by have := HB.out.size; have := W10.out.size; omega)))
              go_wp2_with fail
              go_ret
              exact ⟨rfl, W15.out⟩
theorem cown_law (A2 : Option Addr) (c2 : Nat) (mk : List Int) (A3 : Option Addr) (c3 : Nat) (l : List Int) (A4 : Option Addr) (c4 : Nat) (wk : List Int) (w : World) (_hc2 : mk.length ≤ c2) (_hm2 : c2 ≤ maxLen) (hr2 : RdI w A2 mk) (_ok2 : ∀ x ∈ mk, -9223372036854775808 ≤ x ∧ x ≤ 9223372036854775807) (_hc3 : l.length ≤ c3) (_hm3 : c3 ≤ maxLen) (hr3 : RdI w A3 l) (_ok3 : ∀ x ∈ l, -9223372036854775808 ≤ x ∧ x ≤ 9223372036854775807) (_hc4 : wk.length ≤ c4) (_hm4 : c4 ≤ maxLen) (hr4 : RdI w A4 wk) (_ok4 : ∀ x ∈ wk, -9223372036854775808 ≤ x ∧ x ≤ 9223372036854775807) :
    Calls Try.prog 15 #[.slice A2 mk.length c2, .slice A3 l.length c3, .slice A4 wk.length c4] w (SaysTrue w) := cown_walk A2 c2 mk A3 c3 l A4 c4 wk w hr2 hr3 hr4
end Go.Proofs.Ytchldbkjapnlcaa
