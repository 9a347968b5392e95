/- The law ConfTells: a machine's bytes are those that the document says, and are read as it was; any bytes are one, or none. -/
import Derived.Test.YtchldbkjapnlcaaOwb
import Derived.Test.YtchldbkjapnlcaaJAwa13
import Derived.Test.YtchldbkjapnlcaaJAdr
import Derived.Test.YtchldbkjapnlcaaJl
import Derived.Test.YtchldbkjapnlcaaJb
import Derived.Deep.DeepCutAuto
import Derived.BigQuiet
set_option linter.unusedVariables false
set_option linter.unusedSimpArgs false
namespace Go.Proofs.Ytchldbkjapnlcaa
open Go.RowKit

theorem xor_byte13 (x y : Int) : ∃ b : UInt8, Go.bits .xor .u8 x y = (b.toNat : Int) := by
  have h : ∃ n : Int, Go.bits .xor .u8 x y = IntKind.u8.wrap n := ⟨_, rfl⟩
  obtain ⟨n, hn⟩ := h
  refine ⟨UInt8.ofNat (IntKind.u8.wrap n).toNat, ?_⟩
  rw [hn, UInt8.toNat_ofNat', IntKind.wrap_u8]
  omega
theorem i64_and65535_13 (n : Int) : bits .and .i64 n 65535 = n % 65536 := by
  have h : (BitVec.ofInt 64 65535).toNat = 2 ^ 16 - 1 := by decide
  have key : (BitVec.ofInt 64 n &&& BitVec.ofInt 64 65535).toNat = (n % ((2 ^ 64 : Nat) : Int)).toNat % 2 ^ 16 := by
    rw [BitVec.toNat_and, BitVec.toNat_ofInt, h, Nat.and_two_pow_sub_one_eq_mod]
  show IntKind.i64.wrap ((BitVec.ofInt 64 n &&& BitVec.ofInt 64 65535).toNat : Nat) = n % 65536
  rw [key, IntKind.wrap_i64]
  omega
/-- The masked number under a name. -/
theorem mask65535_13 (n : Int) : ∃ M : Int, bits .and .i64 n 65535 = M ∧ 0 ≤ M ∧ M ≤ 65535 := ⟨n % 65536, i64_and65535_13 n, by omega, by omega⟩
theorem cut_byt_run (A : Option Addr) (n c k : Nat) (hk : k ≤ n) (hc : n ≤ c) (w : World) : (Instr.slice 66 (.slice A n c) none (some (.int .i64 (k : Int))) none).run Try.prog w = .ok (.slice A k c) w := by
  obtain ⟨i, hi, -⟩ := info_parts info_byte
  have := run_cut_to (P := Try.prog) 66 5 i Try.underlying66 hi A n c (k : Int) (by omega) (by omega) hc w
  simpa using this
theorem exec_cut13 {P : Program} {w : World} {o : Oper} {ev : Operand → Value} {t : TypeId} {x hi : Operand} {sv hv v : Value} (ho : o.op = .slice t x none (some hi) none) (hx : ev x = sv) (hh : ev hi = hv) {e : TypeId} (hu : P.underlying t = some (.slice e)) (h : (Instr.slice t sv none (some hv) none).run P w = .ok v w) : (execOp ev o).run P w = .ok (.value v) w := by
  unfold execOp
  simp [ho, hx, hh, Instr.sliceAt, run_underlying hu, h]
theorem OwnB.made13 {w : World} {B : Nat} (hB : B ≤ w.heap.size) : OwnB (w.alloc (.cells #[] 5)) B (.slice (some ⟨w.heap.size, 0, none⟩) 0 0) [] := World.ownsRow_made w #[] 0 hB (by simp [maxLen]) (by simp)
theorem append_bytes13 {ops : Array Oper} {rest : List Oper} {o : Oper} {a : Act} {Q : Exit → Act → World → Prop} (W : World) (hgd : o.guard = none) (s x : Operand)
    (ho : o.op = .call { callee := .builtin .append, args := #[s, x], argTypes := #[66, 66] }) (B : Nat) {v : Value} {l : List UInt8} (hs : a.eval s = v) (hown : OwnB W B v l) {A : Option Addr} {c n : Nat} {m : List UInt8} (hn : m.length = n)
    (hx : a.eval x = .slice A n c) (hr : RdB W A m) (hl : l.length + n < 1000000) (hB : B ≤ W.heap.size)
    (h : ∀ v' w', OwnB w' B v' (l ++ m) → W.grownBy w' v.ownBlock → Below B W w' → wpList Try.prog ops Q rest (a.put o.dst v') w') : wpList Try.prog ops Q (o :: rest) a W := by
  subst hn
  obtain ⟨i0, hi0, hz0, hz1, hz2⟩ := info_parts info_byte
  refine wpList_append_any W hgd s x _ ho B 5 i0 _ 1 1 Try.underlying66 hi0 hz0 hz1 hz2 rfl (by omega) v l.length (bytCs l) hs hown W.heap.size A m.length c (bytCs m) hx hr (bytCs_one_cell m)
    (by simp only [maxLen]; omega) (by omega) hB fun v' w' h1 h2 _ => h v' w' ?_ h2 ((Below.refl _ _).grown h2 hB (fun k hk => (World.ownsRow.lt hown k hk).1))
  unfold OwnB
  rw [bytCs_append, List.length_append]
  exact h1
set_option maxRecDepth 100000 in
/-- append onto an empty row without room: a new row. -/
theorem append_fresh (w : World) (g bG bO n c : Nat) (l : List UInt8) (hl : l.length = n) (hn0 : 0 < n) (hn : n ≤ 1000000) (hr : RdB w (some ⟨bG, bO, none⟩) l) :
    ∃ v' w', (Builtin.append_ #[66, 66] 66 #[.slice (some ⟨g, 0, none⟩) 0 0, .slice (some ⟨bG, bO, none⟩) n c]).run Try.prog w = .ok v' w' ∧ OwnB w' w.heap.size v' l ∧ w.grownBy w' none := by
  subst hl
  obtain ⟨i0, hi0, hz0, hz1, hz2⟩ := info_parts info_byte
  obtain ⟨v', w', hrun, r1, r2⟩ := run_append_arg_grows (P := Try.prog) w 66 66 5 i0 _ 1 1 Try.underlying66 hi0 hz0 hz1 hz2 rfl (by omega) ⟨g, 0, none⟩ 0 0 [] rfl (fun j u hj => by simp at hj) ⟨bG, bO, none⟩ l.length c (bytCs l) (by simp [bytCs])
    (fun j u hj => by
      obtain ⟨ad, e, hs, hb, hc⟩ := hr.2 hn0
      injection e with e
      subst e
      rw [Addr.add_lit]
      exact hc j u hj) (by omega) (by simp only [maxLen]; omega) (by omega)
  refine ⟨v', w', hrun, ?_, r2⟩
  rw [Nat.zero_add] at r1
  exact r1
set_option maxRecDepth 100000 in
set_option maxHeartbeats 4000000 in
theorem ctell_walk (A2 : Option Addr) (c2 : Nat) (mk : List Int) (A3 : Option Addr) (c3 : Nat) (l : List Int) (A4 : Option Addr) (c4 : Nat) (wk : List Int) (A5 : Option Addr) (c5 : Nat) (raw : List UInt8) (at_ by_ : Int) (w : World) (hr2 : RdI w A2 mk) (hr3 : RdI w A3 l) (hr4 : RdI w A4 wk) (hc5 : raw.length ≤ c5) (hr5 : RdB w A5 raw) (hby : 0 ≤ by_ ∧ by_ ≤ 255) (h5 : raw.length ≤ 500) :
    Calls Try.prog 16 #[.slice A2 mk.length c2, .slice A3 l.length c3, .slice A4 wk.length c4, .slice A5 raw.length c5, .int .i64 at_, .int .u8 by_] w (SaysTrue w) := by
  have HAW := Kept.mk awake13
  have HR5 := Kept.mk hr5
  have h5a : ¬ (500 : Int) < (raw.length : Int) := by omega
  clear hr5
  have HR2 := Kept.mk hr2
  have HR3 := Kept.mk hr3
  have HR4 := Kept.mk hr4
  clear hr2 hr3 hr4
  go_enter Try.func16, Try.ntmps16
  go_wp2_with fail
  refine (make_at A2 mk mk.length c2 w rfl HR2.out).mono ?_
  rintro en w6 ⟨p, il, ml, rfl, hmk, b6⟩
  have W6 := Kept.mk b6
  obtain ⟨pmA, pmC, hpm, -, -⟩ := hmk.mem
  obtain ⟨plA, plN, plC, hpl⟩ := hmk.lab
  obtain ⟨pW, pwin, pfuel, pr0, pr1, pr2, pr3, pmems, plabels, pA, pN, pC⟩ := p
  simp only at hpm hpl
  subst hpm hpl
  have HMK := Kept.mk hmk
  clear hmk b6
  obtain ⟨HPM, hPM⟩ : ∃ x : Kept (ProgOk pW pwin il), x = x := ⟨⟨make_prog HMK.out⟩, rfl⟩
  clear hPM
  go_wp2_with fail
  have ba := below_alloc_self w6 (.cells (Prg.cs (⟨pW, pwin, pfuel, pr0, pr1, pr2, pr3, .slice pmA ml.length pmC, .slice plA plN plC, pA, pN, pC⟩ : Prg)).toArray 33)
  refine (states_mach (⟨pW, pwin, pfuel, pr0, pr1, pr2, pr3, .slice pmA ml.length pmC, .slice plA plN plC, pA, pN, pC⟩ : Prg) il ml A3 l l.length c3 (w6.alloc (.cells (Prg.cs (⟨pW, pwin, pfuel, pr0, pr1, pr2, pr3, .slice pmA ml.length pmC, .slice plA plN plC, pA, pN, pC⟩ : Prg)).toArray 33)) rfl (HMK.out.past ba) (HR3.out.past (W6.out.trans (ba.mono W6.out.size)))).mono ?_
  rintro en w7 ⟨s, t, ms, mt, rfl, hs, ht, b7⟩
  have XP := Kept.mk (heap_keep (heap_alloc_new w6 (.cells (Prg.cs (⟨pW, pwin, pfuel, pr0, pr1, pr2, pr3, .slice pmA ml.length pmC, .slice plA plN plC, pA, pN, pC⟩ : Prg)).toArray 33)) b7)
  have W7 := Kept.mk ((W6.out.trans (ba.mono W6.out.size)).trans (b7.mono (by have := W6.out.size; simp; omega)))
  have HMK := Kept.mk ((HMK.out.past ba).past b7)
  have HS := Kept.mk hs
  have HT := Kept.mk ht
  clear hs ht b7 ba
  obtain ⟨s0, s1, s2, s3, ⟨sA, sN, sC⟩, ⟨uA, uN, uC⟩, s6⟩ := s
  obtain ⟨t0, t1, t2, t3, ⟨tA, tN, tC⟩, ⟨vA, vN, vC⟩, t6⟩ := t
  go_upto_region 5 with (fail)
  have bb := (below_alloc_self w7 (.cells #[.int .i64 s0, .int .i64 s1, .int .i64 s2, .int .i64 s3, .slice sA sN sC, .slice uA uN uC, .int .i64 s6] 36)).alloc (by simp) (.cells #[.int .i64 t0, .int .i64 t1, .int .i64 t2, .int .i64 t3, .slice tA tN tC, .slice vA vN vC, .int .i64 t6] 36)
  have XS := Kept.mk ((heap_alloc_old _ _ (by simp)).trans (heap_alloc_new w7 (.cells #[.int .i64 s0, .int .i64 s1, .int .i64 s2, .int .i64 s3, .slice sA sN sC, .slice uA uN uC, .int .i64 s6] 36)) : ((w7.alloc (.cells #[.int .i64 s0, .int .i64 s1, .int .i64 s2, .int .i64 s3, .slice sA sN sC, .slice uA uN uC, .int .i64 s6] 36)).alloc (.cells #[.int .i64 t0, .int .i64 t1, .int .i64 t2, .int .i64 t3, .slice tA tN tC, .slice vA vN vC, .int .i64 t6] 36)).heap[w7.heap.size]? = some (.cells #[.int .i64 s0, .int .i64 s1, .int .i64 s2, .int .i64 s3, .slice sA sN sC, .slice uA uN uC, .int .i64 s6] 36))
  have XT := Kept.mk (heap_alloc2_new w7 (.cells #[.int .i64 s0, .int .i64 s1, .int .i64 s2, .int .i64 s3, .slice sA sN sC, .slice uA uN uC, .int .i64 s6] 36) (.cells #[.int .i64 t0, .int .i64 t1, .int .i64 t2, .int .i64 t3, .slice tA tN tC, .slice vA vN vC, .int .i64 t6] 36))
  have XP := Kept.mk (heap_keep XP.out bb)
  have W8 := Kept.mk (W7.out.trans (bb.mono W7.out.size))
  have HMK := Kept.mk (HMK.out.past bb)
  have HS := Kept.mk (HS.out.past bb)
  have HT := Kept.mk (HT.out.past bb)
  clear bb
  generalize (w7.alloc (.cells #[.int .i64 s0, .int .i64 s1, .int .i64 s2, .int .i64 s3, .slice sA sN sC, .slice uA uN uC, .int .i64 s6] 36)).alloc (.cells #[.int .i64 t0, .int .i64 t1, .int .i64 t2, .int .i64 t3, .slice tA tN tC, .slice vA vN vC, .int .i64 t6] 36) = w8 at *
  have Y6 := fun j => cell_of_row w8 w6.heap.size j _ _ _ XP.out
  have Y7 := fun j => cell_of_row w8 w7.heap.size j _ _ _ XS.out
  simp only [Prg.cs] at Y6
  go_wp2_with fail
  refine (walk_mach (⟨pW, pwin, pfuel, pr0, pr1, pr2, pr3, .slice pmA ml.length pmC, .slice plA plN plC, pA, pN, pC⟩ : Prg) il ml ⟨s0, s1, s2, s3, ⟨sA, sN, sC⟩, ⟨uA, uN, uC⟩, s6⟩ ms A4 wk wk.length c4 w8 rfl HMK.out HS.out (HR4.out.past W8.out)).mono ?_
  rintro en w9 ⟨c, m, dv, out, k, rfl, hm, hd, hwo, b9⟩
  obtain ⟨dA, dC, rfl, -, -⟩ := hd.shape
  have W9 := Kept.mk (W8.out.trans (b9.mono W8.out.size))
  have XP := Kept.mk (heap_keep XP.out b9)
  have HM := Kept.mk hm
  have HWO := Kept.mk hwo
  have HSO := Kept.mk HS.out.ok
  have B89 := Kept.mk b9
  clear hd hwo b9 hm Y6 Y7 HMK HT XT
  obtain ⟨⟨r0, r1, r2, r3, ⟨mA, mN, mC⟩, ⟨kA, kN, kC⟩, cpc⟩, ⟨bA, bN, bC⟩, ⟨qA, qN, qC⟩, fin⟩ := c
  have hbn : bN = m.buf.length := HM.out.cf.buf.n
  have hkn : kN = m.st.stack.length := HM.out.cf.st.stack.n
  have hmn : mN = m.st.mem.length := HM.out.cf.st.mem.n
  have hqn : qN = m.rsb.length := HM.out.cf.rsb.n
  subst hbn hkn hmn hqn
  have HF := Kept.mk (inv_fit HM.out.ok HM.out.inv (Nat.le_trans HM.out.kl (by decide)) HM.out.ll)
  go_upto_region 6 with (fail)
  have bc := below_alloc_self w9 (.cells #[.int .i64 r0, .int .i64 r1, .int .i64 r2, .int .i64 r3, .slice mA m.st.mem.length mC, .slice kA m.st.stack.length kC, .int .i64 cpc, .slice bA m.buf.length bC, .slice qA m.rsb.length qC, .int .i64 fin] 41)
  have XC := Kept.mk (heap_alloc_new w9 (.cells #[.int .i64 r0, .int .i64 r1, .int .i64 r2, .int .i64 r3, .slice mA m.st.mem.length mC, .slice kA m.st.stack.length kC, .int .i64 cpc, .slice bA m.buf.length bC, .slice qA m.rsb.length qC, .int .i64 fin] 41))
  have XP := Kept.mk (heap_keep XP.out bc)
  have W10 := Kept.mk (W9.out.trans (bc.mono W9.out.size))
  have HM := Kept.mk (HM.out.past bc)
  have B80 := Kept.mk (B89.out.trans (bc.mono B89.out.size))
  clear bc
  generalize w9.alloc (.cells #[.int .i64 r0, .int .i64 r1, .int .i64 r2, .int .i64 r3, .slice mA m.st.mem.length mC, .slice kA m.st.stack.length kC, .int .i64 cpc, .slice bA m.buf.length bC, .slice qA m.rsb.length qC, .int .i64 fin] 41) = w10 at *
  generalize (Value.agg #[.int .i64 (pW), .int .i64 (pwin), .int .i64 (pfuel), .int .i64 (pr0), .int .i64 (pr1), .int .i64 (pr2), .int .i64 (pr3), .slice pmA ml.length pmC, .slice plA plN plC, .slice pA pN pC]) = xP
  generalize (Value.agg #[.int .i64 (s0), .int .i64 (s1), .int .i64 (s2), .int .i64 (s3), .slice sA sN sC, .slice uA uN uC, .int .i64 (s6)]) = xS
  generalize (Value.agg #[.int .i64 (t0), .int .i64 (t1), .int .i64 (t2), .int .i64 (t3), .slice tA tN tC, .slice vA vN vC, .int .i64 (t6)]) = xT
  generalize (Value.agg #[.int .i64 (r0), .int .i64 (r1), .int .i64 (r2), .int .i64 (r3), .slice mA m.st.mem.length mC, .slice kA m.st.stack.length kC, .int .i64 (cpc), .slice bA m.buf.length bC, .slice qA m.rsb.length qC, .int .i64 (fin)]) = xC
  generalize (Value.tuple #[xS, xT]) = xST
  generalize (Value.tuple #[xC, .slice dA out.length dC]) = xCD
  have HK := keepsA (L := ms.mem.length) HM.out.ok HM.out.ll
  obtain ⟨k', hk', hik⟩ := walk_keeps HK (wk.take 60) 0 _ ⟨inv_start HM.out.ok.win.1 HSO.out, fun _ he => (by cases he)⟩
  rw [← HWO.out] at hik
  have h64 := ints_64 HM.out.ok HM.out.inv hik.2 HM.out.ll (Nat.le_trans HM.out.kl (by decide))
  have HCP := Kept.mk (fun w1 (hb : Below w10.heap.size w10 w1) => conf_code (⟨⟨r0, r1, r2, r3, ⟨mA, m.st.mem.length, mC⟩, ⟨kA, m.st.stack.length, kC⟩, cpc⟩, ⟨bA, m.buf.length, bC⟩, ⟨qA, m.rsb.length, qC⟩, fin⟩ : Cnf) m w1 (HM.out.past hb).cf h64 (Nat.le_trans HF.out.ml (by decide)) (Nat.le_trans HF.out.sl (by decide)) (Nat.le_trans HF.out.bl (by decide)) (Nat.le_trans HF.out.rl (by decide)))
  have HCR0 := Kept.mk (fun w1 (hb : Below w10.heap.size w10 w1) => code9 (⟨⟨r0, r1, r2, r3, ⟨mA, m.st.mem.length, mC⟩, ⟨kA, m.st.stack.length, kC⟩, cpc⟩, ⟨bA, m.buf.length, bC⟩, ⟨qA, m.rsb.length, qC⟩, fin⟩ : Cnf) m w1 (HM.out.past hb).cf HF.out.ml HF.out.sl HF.out.bl HF.out.rl)
  have hLL : (cfInts m).length ≤ 10010 := by rw [cfInts_length]; have := HM.out.buf_len; have := HF.out.ml; have := HF.out.sl; have := HF.out.rl; omega
  have hL10 : 10 ≤ (cfInts m).length := by rw [cfInts_length]; omega
  have hL2 := putL_length_le (cfInts m)
  have HPM : Kept (∀ m' : Conf, (∀ x ∈ cfInts m', I64 x) → putL (cfInts m') = putL (cfInts m) → m' = m) := ⟨fun m' h1 h2 => cfInts_inj (putL_inj _ _ h1 h64 h2)⟩
  have H64 := Kept.mk h64
  clear HK hk' hik h64
  have Y9 := fun j => cell_of_row w10 w9.heap.size j _ _ _ XC.out
  go_wp2_with fail
  refine (HCP.out w10 (Below.refl _ _)).mono ?_
  rintro en w11 ⟨vb, rfl, ob, b11⟩
  obtain ⟨vA, vC, rfl, hbc, rb⟩ := OwnB.shape ob
  have HB11 := Kept.mk b11
  have HRB := Kept.mk rb
  clear ob b11 rb Y9 HCP
  go_wp2_with fail
  refine (parse_any vA (putL (cfInts m)).length vC (putL (cfInts m)) w11 rfl hbc HRB.out (by omega)).mono ?_
  rintro en w12 ⟨cy, ok, rfl, b12, hy, hn⟩
  have hok : ok = true := by
    cases ok with
    | true => rfl
    | false => exact absurd rfl ((hn rfl).2 m H64.out)
  subst hok
  obtain ⟨my, hcy, -, hput, h64y, -⟩ := hy rfl
  obtain rfl := (HPM.out my h64y hput).symm
  obtain ⟨⟨y0, y1, y2, y3, ⟨ymA, ymN, ymC⟩, ⟨ysA, ysN, ysC⟩, ypc⟩, ⟨ybA, ybN, ybC⟩, ⟨yqA, yqN, yqC⟩, yf⟩ := cy
  clear hy hn hput h64y HPM H64
  generalize hL : cfInts m = L at *
  clear hL
  obtain ⟨nB, hnb⟩ : ∃ n, (putL L).length = n := ⟨_, rfl⟩
  rw [hnb] at hbc hL2 ⊢
  go_upto_region 8 with (fail)
  have bX := below_alloc_self w12 (.cells #[.int .i64 (y0), .int .i64 (y1), .int .i64 (y2), .int .i64 (y3), .slice ymA ymN ymC, .slice ysA ysN ysC, .int .i64 (ypc), .slice ybA ybN ybC, .slice yqA yqN yqC, .int .i64 (yf)] 41)
  have X19 := heap_alloc_new w12 (.cells #[.int .i64 (y0), .int .i64 (y1), .int .i64 (y2), .int .i64 (y3), .slice ymA ymN ymC, .slice ysA ysN ysC, .int .i64 (ypc), .slice ybA ybN ybC, .slice yqA yqN yqC, .int .i64 (yf)] 41)
  have HCY := Kept.mk (hcy.past bX)
  have HRB := Kept.mk (HRB.out.past (b12.trans (bX.mono b12.size)))
  have hb := HB11.out.trans ((b12.trans (bX.mono b12.size)).mono HB11.out.size)
  clear bX b12 hcy HB11
  generalize w12.alloc (.cells #[.int .i64 (y0), .int .i64 (y1), .int .i64 (y2), .int .i64 (y3), .slice ymA ymN ymC, .slice ysA ysN ysC, .int .i64 (ypc), .slice ybA ybN ybC, .slice yqA yqN yqC, .int .i64 (yf)] 41) = wl at *
  obtain ⟨S19, hS19⟩ : ∃ S, w12.heap.size = S := ⟨_, rfl⟩
  rw [hS19] at X19 ⊢
  clear hS19
  have HB := Kept.mk hb
  have B8L := Kept.mk (B80.out.trans (hb.mono B80.out.size))
  have HSI := Kept.mk (HS.out.st.past B8L.out)
  have XKS : Kept (∀ w1, Below wl.heap.size wl w1 → CellsAt w1 w7.heap.size 0 [.int .i64 (s0), .int .i64 (s1), .int .i64 (s2), .int .i64 (s3), .slice sA sN sC, .slice uA uN uC, .int .i64 (s6)]) := ⟨fun w1 hb => CellsAt.of_block (heap_keep (heap_keep XS.out B8L.out) hb)⟩
  have XKC : Kept (∀ w1, Below wl.heap.size wl w1 → CellsAt w1 w9.heap.size 0 [.int .i64 (r0), .int .i64 (r1), .int .i64 (r2), .int .i64 (r3), .slice mA m.st.mem.length mC, .slice kA m.st.stack.length kC, .int .i64 (cpc), .slice bA m.buf.length bC, .slice qA m.rsb.length qC, .int .i64 (fin)]) := ⟨fun w1 hb => CellsAt.of_block (heap_keep (heap_keep XC.out HB.out) hb)⟩
  have XKY : Kept (∀ w1, Below wl.heap.size wl w1 → CellsAt w1 S19 0 [.int .i64 (y0), .int .i64 (y1), .int .i64 (y2), .int .i64 (y3), .slice ymA ymN ymC, .slice ysA ysN ysC, .int .i64 (ypc), .slice ybA ybN ybC, .slice yqA yqN yqC, .int .i64 (yf)]) := ⟨fun w1 hb => CellsAt.of_block (heap_keep X19 hb)⟩
  have HCR : Kept (∀ w1, Below wl.heap.size wl w1 → Calls Try.prog 34 #[Cnf.v (⟨⟨r0, r1, r2, r3, ⟨mA, m.st.mem.length, mC⟩, ⟨kA, m.st.stack.length, kC⟩, cpc⟩, ⟨bA, m.buf.length, bC⟩, ⟨qA, m.rsb.length, qC⟩, fin⟩ : Cnf)] w1 (GivesB w1 (putL L))) := ⟨fun w1 hb => HCR0.out w1 (HB.out.trans (hb.mono HB.out.size))⟩
  have hff : ((decide (fin ≠ 0)) != (fin != 0)) = false := by by_cases h : fin = 0 <;> simp [h]
  have hb0 : ((nB : Int) == 0) = false := by rw [beq_eq_false_iff_ne]; omega
  clear hb X19 HCR0
  refine region_tell (wl.heap.size) (G := fun _ => True) (ts := [
      .is (Value.slice vA nB vC),
      .is (Value.agg #[.int .i64 (r0), .int .i64 (r1), .int .i64 (r2), .int .i64 (r3), .slice mA m.st.mem.length mC, .slice kA m.st.stack.length kC, .int .i64 (cpc), .slice bA m.buf.length bC, .slice qA m.rsb.length qC, .int .i64 (fin)]),
      .makes (fun v w' => OwnB w' wl.heap.size v (putL L)),
      .draws (.bool true),
      .is (Value.bool false),
      .is (Value.bool false),
      .is (Value.bool true),
      .is (Value.bool false),
      .is (Value.bool false),
      .is (Value.bool false),
      .is (Value.agg #[.int .i64 (y0), .int .i64 (y1), .int .i64 (y2), .int .i64 (y3), .slice ymA ymN ymC, .slice ysA ysN ysC, .int .i64 (ypc), .slice ybA ybN ybC, .slice yqA yqN yqC, .int .i64 (yf)]),
      .is (Value.agg #[.int .i64 (r0), .int .i64 (r1), .int .i64 (r2), .int .i64 (r3), .slice mA m.st.mem.length mC, .slice kA m.st.stack.length kC, .int .i64 (cpc), .slice bA m.buf.length bC, .slice qA m.rsb.length qC, .int .i64 (fin)]),
      .draws (.bool true),
      .is (Value.bool false),
      .is (Value.bool false),
      .is (Value.bool false),
      .is (Value.agg #[.int .i64 (r0), .int .i64 (r1), .int .i64 (r2), .int .i64 (r3), .slice mA m.st.mem.length mC, .slice kA m.st.stack.length kC, .int .i64 (cpc), .slice bA m.buf.length bC, .slice qA m.rsb.length qC, .int .i64 (fin)]),
      .draws (.bool (decide (fin ≠ 0))),
      .is (Value.pointer (some ⟨w9.heap.size, 9, none⟩)),
      .is (Value.int .i64 (fin)),
      .is (Value.bool ((fin) != (0))),
      .is (Value.bool false),
      .is (Value.bool false),
      .is (Value.bool false),
      .is (Stt.v (⟨s0, s1, s2, s3, ⟨sA, sN, sC⟩, ⟨uA, uN, uC⟩, s6⟩ : Stt)),
      .makes (fun v w' => ∃ c' : Stt, v = Cnf.v ⟨c', ⟨none, 0, 0⟩, ⟨none, 0, 0⟩, 0⟩ ∧ StIs w' c' ms),
      .is (Stt.v (⟨s0, s1, s2, s3, ⟨sA, sN, sC⟩, ⟨uA, uN, uC⟩, s6⟩ : Stt)),
      .draws (Cnf.v (⟨(⟨s0, s1, s2, s3, ⟨sA, sN, sC⟩, ⟨uA, uN, uC⟩, s6⟩ : Stt), Sl.none, Sl.none, 0⟩ : Cnf)),
      .draws (.bool true),
      .is (Value.bool false),
      .is (Value.bool false),
      .is (Value.bool false),
      .is (Value.slice vA nB vC),
      .is (Value.int .i64 ((nB : Int))),
      .is (Value.bool false),
      .is (Value.bool false)])
    (fin := []) (cs := []) (by kernel_rfl) rfl (by kernel_rfl) (by kernel_rfl)
    ⟨trivial, trivial, (fun _ _ _ h hb => OwnB.past h hb), trivial, trivial, trivial, trivial, trivial, trivial, trivial, trivial, trivial, trivial, trivial, trivial, trivial, trivial, trivial, trivial, trivial, trivial, trivial, trivial, trivial, trivial, (fun _ _ _ ⟨c', h1, h2⟩ hb => ⟨c', h1, h2.past hb⟩), trivial, trivial, trivial, trivial, trivial, trivial, trivial, trivial, trivial, trivial, trivial⟩ (fun _ _ _ _ => trivial) (by simp) (by simp) trivial
    ⟨?_, ?_, ?_, ?_, ?_, ?_, ?_, ?_, ?_, ?_, ?_, ?_, ?_, ?_, ?_, ?_, ?_, ?_, ?_, ?_, ?_, ?_, ?_, ?_, ?_, ?_, ?_, ?_, ?_, ?_, ?_, ?_, ?_, ?_, ?_, ?_, trivial⟩ ?_
  · intro vals w1 hB _ hd
    clear hd
    refine one_value (v := Value.slice vA nB vC) rfl ?_ (post_is rfl)
    kernel_rfl
  · intro vals w1 hB _ hd
    clear hd
    refine one_value (v := Value.agg #[.int .i64 (r0), .int .i64 (r1), .int .i64 (r2), .int .i64 (r3), .slice mA m.st.mem.length mC, .slice kA m.st.stack.length kC, .int .i64 (cpc), .slice bA m.buf.length bC, .slice qA m.rsb.length qC, .int .i64 (fin)]) rfl ?_ (post_is rfl)
    exact exec_load_row rfl (b := w9.heap.size) (off := 0) (by kernel_rfl) [.int .i64 (r0), .int .i64 (r1), .int .i64 (r2), .int .i64 (r3), .slice mA m.st.mem.length mC, .slice kA m.st.stack.length kC, .int .i64 (cpc), .slice bA m.buf.length bC, .slice qA m.rsb.length qC, .int .i64 (fin)] (XKC.out w1 hB) Try.underlying41 rfl (by kernel_rfl)
  · intro vals w1 hB _ hd
    clear hd
    refine one_calls (f := 34) (args := #[.agg #[.int .i64 (r0), .int .i64 (r1), .int .i64 (r2), .int .i64 (r3), .slice mA m.st.mem.length mC, .slice kA m.st.stack.length kC, .int .i64 (cpc), .slice bA m.buf.length bC, .slice qA m.rsb.length qC, .int .i64 (fin)]]) (w1 := w1) rfl (by kernel_rfl) ?_
    refine (HCR.out w1 hB).mono ?_
    rintro e1 w3 ⟨v3, rfl, ho, hb⟩
    exact ⟨_, rfl, post_makes rfl (OwnB.lower ho hB.size) hb⟩
  · intro vals w1 hB _ hd
    have da : OwnB w1 wl.heap.size (vals 2) (putL L) := hd 2 (by kernel_rfl)
    clear hd
    obtain ⟨A5, c5x, e5, _, r5⟩ := OwnB.shape da
    rw [hnb] at e5
    refine one_calls (f := 53) (args := #[.slice vA nB vC, vals 2]) (w1 := w1) rfl (by kernel_rfl) ?_
    rw [e5]
    refine (same_bytes vA A5 nB nB vC c5x (putL L) (putL L) w1 hnb hnb (HRB.out.past hB) r5).mono ?_
    rw [decide_eq_true rfl]
    rintro e1 w3 ⟨rfl, rfl⟩
    exact ⟨_, rfl, post_draws rfl (Below.refl _ _)⟩
  · intro vals w1 hB _ hd
    clear hd
    refine one_value (v := Value.bool false) rfl ?_ (post_is rfl)
    kernel_rfl
  · intro vals w1 hB _ hd
    clear hd
    refine one_value (v := Value.bool false) rfl ?_ (post_is rfl)
    kernel_rfl
  · intro vals w1 hB _ hd
    clear hd
    refine one_value_g (v := Value.bool true) (by kernel_rfl) ?_ (post_is rfl)
    kernel_rfl
  · intro vals w1 hB _ hd
    clear hd
    refine one_value_g (v := Value.bool false) (by kernel_rfl) ?_ (post_is rfl)
    kernel_rfl
  · intro vals w1 hB _ hd
    clear hd
    refine one_value (v := Value.bool false) rfl ?_ (post_is rfl)
    kernel_rfl
  · intro vals w1 hB _ hd
    clear hd
    refine one_value (v := Value.bool false) rfl ?_ (post_is rfl)
    kernel_rfl
  · intro vals w1 hB _ hd
    clear hd
    refine one_value_g (v := Value.agg #[.int .i64 (y0), .int .i64 (y1), .int .i64 (y2), .int .i64 (y3), .slice ymA ymN ymC, .slice ysA ysN ysC, .int .i64 (ypc), .slice ybA ybN ybC, .slice yqA yqN yqC, .int .i64 (yf)]) (by kernel_rfl) ?_ (post_is rfl)
    exact exec_load_row rfl (b := S19) (off := 0) (by kernel_rfl) [.int .i64 (y0), .int .i64 (y1), .int .i64 (y2), .int .i64 (y3), .slice ymA ymN ymC, .slice ysA ysN ysC, .int .i64 (ypc), .slice ybA ybN ybC, .slice yqA yqN yqC, .int .i64 (yf)] (XKY.out w1 hB) Try.underlying41 rfl (by kernel_rfl)
  · intro vals w1 hB _ hd
    clear hd
    refine one_value_g (v := Value.agg #[.int .i64 (r0), .int .i64 (r1), .int .i64 (r2), .int .i64 (r3), .slice mA m.st.mem.length mC, .slice kA m.st.stack.length kC, .int .i64 (cpc), .slice bA m.buf.length bC, .slice qA m.rsb.length qC, .int .i64 (fin)]) (by kernel_rfl) ?_ (post_is rfl)
    exact exec_load_row rfl (b := w9.heap.size) (off := 0) (by kernel_rfl) [.int .i64 (r0), .int .i64 (r1), .int .i64 (r2), .int .i64 (r3), .slice mA m.st.mem.length mC, .slice kA m.st.stack.length kC, .int .i64 (cpc), .slice bA m.buf.length bC, .slice qA m.rsb.length qC, .int .i64 (fin)] (XKC.out w1 hB) Try.underlying41 rfl (by kernel_rfl)
  · intro vals w1 hB _ hd
    clear hd
    refine one_calls_g (f := 30) (args := #[.agg #[.int .i64 (y0), .int .i64 (y1), .int .i64 (y2), .int .i64 (y3), .slice ymA ymN ymC, .slice ysA ysN ysC, .int .i64 (ypc), .slice ybA ybN ybC, .slice yqA yqN yqC, .int .i64 (yf)], .agg #[.int .i64 (r0), .int .i64 (r1), .int .i64 (r2), .int .i64 (r3), .slice mA m.st.mem.length mC, .slice kA m.st.stack.length kC, .int .i64 (cpc), .slice bA m.buf.length bC, .slice qA m.rsb.length qC, .int .i64 (fin)]]) (w1 := w1) (by kernel_rfl) (by kernel_rfl) ?_
    refine (same9 (⟨⟨y0, y1, y2, y3, ⟨ymA, ymN, ymC⟩, ⟨ysA, ysN, ysC⟩, ypc⟩, ⟨ybA, ybN, ybC⟩, ⟨yqA, yqN, yqC⟩, yf⟩ : Cnf) (⟨⟨r0, r1, r2, r3, ⟨mA, m.st.mem.length, mC⟩, ⟨kA, m.st.stack.length, kC⟩, cpc⟩, ⟨bA, m.buf.length, bC⟩, ⟨qA, m.rsb.length, qC⟩, fin⟩ : Cnf) m m w1 (HCY.out.past hB) ((HM.out.past HB.out).past hB).cf HF.out.ml HF.out.sl HF.out.bl HF.out.rl HF.out.ml HF.out.sl HF.out.bl HF.out.rl).mono ?_
    rw [decide_eq_true rfl]
    rintro e1 w3 ⟨rfl, hb⟩
    exact ⟨_, rfl, post_draws rfl hb⟩
  · intro vals w1 hB _ hd
    clear hd
    refine one_value_g (v := Value.bool false) (by kernel_rfl) ?_ (post_is rfl)
    kernel_rfl
  · intro vals w1 hB _ hd
    clear hd
    refine one_value (v := Value.bool false) rfl ?_ (post_is rfl)
    kernel_rfl
  · intro vals w1 hB _ hd
    clear hd
    refine one_value (v := Value.bool false) rfl ?_ (post_is rfl)
    kernel_rfl
  · intro vals w1 hB _ hd
    clear hd
    refine one_value_g (v := Value.agg #[.int .i64 (r0), .int .i64 (r1), .int .i64 (r2), .int .i64 (r3), .slice mA m.st.mem.length mC, .slice kA m.st.stack.length kC, .int .i64 (cpc), .slice bA m.buf.length bC, .slice qA m.rsb.length qC, .int .i64 (fin)]) (by kernel_rfl) ?_ (post_is rfl)
    exact exec_load_row rfl (b := w9.heap.size) (off := 0) (by kernel_rfl) [.int .i64 (r0), .int .i64 (r1), .int .i64 (r2), .int .i64 (r3), .slice mA m.st.mem.length mC, .slice kA m.st.stack.length kC, .int .i64 (cpc), .slice bA m.buf.length bC, .slice qA m.rsb.length qC, .int .i64 (fin)] (XKC.out w1 hB) Try.underlying41 rfl (by kernel_rfl)
  · intro vals w1 hB _ hd
    clear hd
    refine one_calls_g (f := 51) (args := #[.agg #[.int .i64 (r0), .int .i64 (r1), .int .i64 (r2), .int .i64 (r3), .slice mA m.st.mem.length mC, .slice kA m.st.stack.length kC, .int .i64 (cpc), .slice bA m.buf.length bC, .slice qA m.rsb.length qC, .int .i64 (fin)]]) (w1 := w1) (by kernel_rfl) (by kernel_rfl) ?_
    refine (final_any (⟨⟨r0, r1, r2, r3, ⟨mA, m.st.mem.length, mC⟩, ⟨kA, m.st.stack.length, kC⟩, cpc⟩, ⟨bA, m.buf.length, bC⟩, ⟨qA, m.rsb.length, qC⟩, fin⟩ : Cnf) w1).mono ?_
    rintro e1 w3 ⟨rfl, hb⟩
    exact ⟨_, rfl, post_draws rfl hb⟩
  · intro vals w1 hB _ hd
    clear hd
    refine one_value_g (v := Value.pointer (some ⟨w9.heap.size, 9, none⟩)) (by kernel_rfl) ?_ (post_is rfl)
    kernel_rfl
  · intro vals w1 hB _ hd
    clear hd
    refine one_value_g (v := Value.int .i64 (fin)) (by kernel_rfl) ?_ (post_is rfl)
    exact exec_cell rfl (by kernel_rfl) ((XKC.out w1 hB) 9 _ rfl) Try.underlying3 rfl
  · intro vals w1 hB _ hd
    clear hd
    refine one_value_g (v := Value.bool ((fin) != (0))) (by kernel_rfl) ?_ (post_is rfl)
    kernel_rfl
  · intro vals w1 hB _ hd
    clear hd
    refine one_value_g (v := Value.bool false) (by kernel_rfl) ?_ (post_is rfl)
    exact Eq.trans (b := .ok (.value (.bool ((decide (fin ≠ 0)) != ((fin) != (0))))) w1) (by kernel_rfl) (by rw [hff])
  · intro vals w1 hB _ hd
    clear hd
    refine one_value (v := Value.bool false) rfl ?_ (post_is rfl)
    kernel_rfl
  · intro vals w1 hB _ hd
    clear hd
    refine one_value (v := Value.bool false) rfl ?_ (post_is rfl)
    kernel_rfl
  · intro vals w1 hB _ hd
    clear hd
    refine one_value_g (v := Stt.v (⟨s0, s1, s2, s3, ⟨sA, sN, sC⟩, ⟨uA, uN, uC⟩, s6⟩ : Stt)) (by kernel_rfl) ?_ (post_is rfl)
    exact exec_load_row rfl (b := w7.heap.size) (off := 0) (by kernel_rfl) [.int .i64 (s0), .int .i64 (s1), .int .i64 (s2), .int .i64 (s3), .slice sA sN sC, .slice uA uN uC, .int .i64 (s6)] (XKS.out w1 hB) Try.underlying36 rfl (by kernel_rfl)
  · intro vals w1 hB _ hd
    clear hd
    refine one_calls_g (f := 50) (args := #[Stt.v (⟨s0, s1, s2, s3, ⟨sA, sN, sC⟩, ⟨uA, uN, uC⟩, s6⟩ : Stt)]) (w1 := w1) (by kernel_rfl) (by kernel_rfl) ?_
    refine (cbegin_any (⟨s0, s1, s2, s3, ⟨sA, sN, sC⟩, ⟨uA, uN, uC⟩, s6⟩ : Stt) ms w1 (HSI.out.past hB) HSO.out.ml (by rw [HSO.out.stack]; decide)).mono ?_
    rintro e1 w3 ⟨c', rfl, ho, hb⟩
    exact ⟨_, rfl, post_makes rfl ⟨c', rfl, ho.is⟩ hb⟩
  · intro vals w1 hB _ hd
    clear hd
    refine one_value_g (v := Stt.v (⟨s0, s1, s2, s3, ⟨sA, sN, sC⟩, ⟨uA, uN, uC⟩, s6⟩ : Stt)) (by kernel_rfl) ?_ (post_is rfl)
    exact exec_load_row rfl (b := w7.heap.size) (off := 0) (by kernel_rfl) [.int .i64 (s0), .int .i64 (s1), .int .i64 (s2), .int .i64 (s3), .slice sA sN sC, .slice uA uN uC, .int .i64 (s6)] (XKS.out w1 hB) Try.underlying36 rfl (by kernel_rfl)
  · intro vals w1 hB _ hd
    clear hd
    refine one_calls_g (f := 36) (args := #[Stt.v (⟨s0, s1, s2, s3, ⟨sA, sN, sC⟩, ⟨uA, uN, uC⟩, s6⟩ : Stt)]) (w1 := w1) (by kernel_rfl) (by kernel_rfl) ?_
    refine (begin_ref (⟨s0, s1, s2, s3, ⟨sA, sN, sC⟩, ⟨uA, uN, uC⟩, s6⟩ : Stt) w1).mono ?_
    rintro e1 w3 ⟨rfl, hb⟩
    exact ⟨_, rfl, post_draws rfl hb⟩
  · intro vals w1 hB _ hd
    obtain ⟨c', e7, hst⟩ : ∃ c' : Stt, vals 25 = Cnf.v ⟨c', ⟨none, 0, 0⟩, ⟨none, 0, 0⟩, 0⟩ ∧ StIs w1 c' ms := hd 25 (by kernel_rfl)
    clear hd
    refine one_calls_g (f := 30) (args := #[vals 25, Cnf.v (⟨(⟨s0, s1, s2, s3, ⟨sA, sN, sC⟩, ⟨uA, uN, uC⟩, s6⟩ : Stt), Sl.none, Sl.none, 0⟩ : Cnf)]) (w1 := w1) (by kernel_rfl) (by kernel_rfl) ?_
    rw [e7]
    refine (same9 ⟨c', ⟨none, 0, 0⟩, ⟨none, 0, 0⟩, 0⟩ (⟨(⟨s0, s1, s2, s3, ⟨sA, sN, sC⟩, ⟨uA, uN, uC⟩, s6⟩ : Stt), Sl.none, Sl.none, 0⟩ : Cnf) ⟨ms, [], [], 0⟩ ⟨ms, [], [], 0⟩ w1 ⟨hst, RdEs.nil, RdIs.nil, rfl⟩ ⟨HSI.out.past hB, RdEs.nil, RdIs.nil, rfl⟩ HSO.out.ml (by rw [HSO.out.stack]; decide) (by show ([] : List Ent).length ≤ 1000; decide) (by show ([] : List Int).length ≤ 1000; decide) HSO.out.ml (by rw [HSO.out.stack]; decide) (by show ([] : List Ent).length ≤ 1000; decide) (by show ([] : List Int).length ≤ 1000; decide)).mono ?_
    rw [decide_eq_true rfl]
    rintro e1 w3 ⟨rfl, hb⟩
    exact ⟨_, rfl, post_draws rfl hb⟩
  · intro vals w1 hB _ hd
    clear hd
    refine one_value_g (v := Value.bool false) (by kernel_rfl) ?_ (post_is rfl)
    kernel_rfl
  · intro vals w1 hB _ hd
    clear hd
    refine one_value (v := Value.bool false) rfl ?_ (post_is rfl)
    kernel_rfl
  · intro vals w1 hB _ hd
    clear hd
    refine one_value (v := Value.bool false) rfl ?_ (post_is rfl)
    kernel_rfl
  · intro vals w1 hB _ hd
    clear hd
    refine one_value_g (v := Value.slice vA nB vC) (by kernel_rfl) ?_ (post_is rfl)
    kernel_rfl
  · intro vals w1 hB _ hd
    clear hd
    refine one_value_g (v := Value.int .i64 ((nB : Int))) (by kernel_rfl) ?_ (post_is rfl)
    kernel_rfl
  · intro vals w1 hB _ hd
    clear hd
    refine one_value_g (v := Value.bool false) (by kernel_rfl) ?_ (post_is rfl)
    exact Eq.trans (b := .ok (.value (.bool (((nB : Int)) == (0)))) w1) (by kernel_rfl) (by rw [hb0])
  · intro vals w1 hB _ hd
    clear hd
    refine one_value (v := Value.bool false) rfl ?_ (post_is rfl)
    kernel_rfl
  intro vals w15 b15 _ hr
  clear hr
  simp only [fillT, Tell.is, Tell.draws, Tell.makes, Act.put, List.setIfInBounds_toArray, List.set_cons_zero, List.set_cons_succ]
  clear XKS XKC XKY HCR HCY HSI hff hb0
  generalize (Value.tuple #[Cnf.v (⟨⟨y0, y1, y2, y3, ⟨ymA, ymN, ymC⟩, ⟨ysA, ysN, ysC⟩, ypc⟩, ⟨ybA, ybN, ybC⟩, ⟨yqA, yqN, yqC⟩, yf⟩ : Cnf), .bool true]) = xY
  generalize Cnf.v (⟨⟨y0, y1, y2, y3, ⟨ymA, ymN, ymC⟩, ⟨ysA, ysN, ysC⟩, ypc⟩, ⟨ybA, ybN, ybC⟩, ⟨yqA, yqN, yqC⟩, yf⟩ : Cnf) = xY2
  have hnB : nB ≤ 91000 := by omega
  have hnB0 : 0 < nB := by omega
  have W15 := Kept.mk ((W10.out.trans (HB.out.mono W10.out.size)).trans (b15.mono (by have := HB.out.size; have := W10.out.size; omega)))
  have HRB := Kept.mk (HRB.out.past b15)
  have hs15 : w10.heap.size ≤ w15.heap.size := Nat.le_trans HB.out.size b15.size
  have HR5 := Kept.mk (HR5.out.past W15.out)
  clear B8L B80 HB HM HF HS XP XS XC b15
  obtain ⟨M, hM, hM0, hM1⟩ := mask65535_13 at_
  obtain ⟨K, hK, hK1⟩ : ∃ K : Nat, M % (nB : Int) = K ∧ K < nB := ⟨(M % (nB : Int)).toNat, by have := Int.emod_nonneg M (show (nB : Int) ≠ 0 by omega); omega, by have := Int.emod_lt_of_pos M (show (0 : Int) < (nB : Int) by omega); have := Int.emod_nonneg M (show (nB : Int) ≠ 0 by omega); omega⟩
  obtain ⟨by8, rfl⟩ : ∃ b : UInt8, by_ = (b.toNat : Int) := ⟨UInt8.ofNat by_.toNat, by rw [UInt8.toNat_ofNat']; omega⟩
  obtain ⟨bG, bO, rfl, hbG, -⟩ := HRB.out.at_ (i := 0) (by omega)
  clear hbG
  go_wp2_with (at_builtin; go_must (refine append_bytes13 _ rfl (.tmp 88) (.tmp 89) rfl w15.heap.size rfl (OwnB.made13 (Nat.le_refl _)) (n := nB) hnb rfl (HRB.out.past (below_alloc_self _ _)) (by simp; omega) (by simp) ?_))
  intro v' w16 h1 h2 h3
  have h1 : OwnB w16 w15.heap.size v' (putL L) := by simpa using h1
  have HOT := Kept.mk h1
  have B16 := Kept.mk h3
  have HRBX := Kept.mk HRB.out
  have HR5X := Kept.mk HR5.out
  have hb6 := (below_alloc_self w15 (.cells #[] 5)).trans (h3.mono (by simp))
  have hb16 : Below w15.heap.size w15 w16 := (below_alloc_self w15 (.cells #[] 5)).trans h3
  obtain ⟨tA, tC, rfl, htc, -⟩ := h1.shape
  rw [hnb] at htc HOT ⊢
  obtain ⟨tG, rfl, hgB, hcell, hfr, -⟩ := OwnB.elS HOT.out (show K < (putL L).length by omega) 0
  have HST := Kept.mk (fun x : UInt8 => own_set_byte HOT.out K (by omega) x)
  have HRB := Kept.mk (HRB.out.past hb16)
  have HR5 := Kept.mk (HR5.out.past hb16)
  have W16 := Kept.mk (W15.out.trans (hb16.mono W15.out.size))
  obtain ⟨nx, hnx⟩ := xor_byte13 ((putL L)[K].toNat : Int) (by8.toNat : Int)
  have hs16 : w15.heap.size ≤ w16.heap.size := hb16.size
  have HB16 := Kept.mk hb16
  have HRB15 := Kept.mk HRBX.out
  have HR515 := Kept.mk HR5X.out
  clear h1 h2 h3 hb6 hb16 B16
  go_upto_region 12 with (fail)
  have HOT := Kept.mk (HST.out nx)
  have hbX : Below w15.heap.size w16 (w16.setCell ⟨tG, K, none⟩ (.int .u8 nx.toNat)) := (Below.refl _ _).setCell (p := ⟨tG, K, none⟩) hgB _
  have hb := HB16.out.trans hbX
  have HRB := Kept.mk (HRB15.out.past hb)
  have HR5 := Kept.mk (HR515.out.past hb)
  have WM := Kept.mk (W15.out.trans (hb.mono W15.out.size))
  obtain ⟨tA2, tC2, e2, -, rT⟩ := HOT.out.shape
  injection e2 with e2 hz1 hz2
  subst e2
  clear hz1 hz2
  have hTn : ((putL L).set K nx).length = nB := by rw [List.length_set]; exact hnb
  have HRT := Kept.mk rT
  clear hb hbX HB16 W16 HST HOT W15 HRB15 HR515 HRBX HR5X rT hcell hfr
  generalize w16.setCell ⟨tG, K, none⟩ (.int .u8 nx.toNat) = wm at *
  have hn0 : (nB : Int) ≠ 0 := by omega
  have hKt : M.tmod (nB : Int) = (K : Int) := by rw [Int.tmod_eq_emod_of_nonneg hM0]; exact hK
  refine region_tell (wm.heap.size) (G := fun _ => True) (ts := [
      .is (Value.slice A5 raw.length c5),
      .is (Value.slice (some ⟨tG, 0, none⟩) nB tC),
      .is (Value.slice (some ⟨bG, bO, none⟩) nB vC),
      .is (Value.int .i64 (at_)),
      .is (.int .i64 M),
      .is (Value.slice (some ⟨bG, bO, none⟩) nB vC),
      .is (Value.int .i64 ((nB : Int))),
      .is (.int .i64 (K : Int)),
      .is (.slice (some ⟨bG, bO, none⟩) K vC),
      .makes (fun v _ => ∃ g : Nat, v = .slice (some ⟨g, 0, none⟩) 0 0),
      .is (Value.slice (some ⟨bG, bO, none⟩) nB vC),
      .makes (fun v w' => OwnB w' wm.heap.size v (putL L)),
      .is (Value.int .u8 (by8.toNat : Int)),
      .makes (fun v w => ∃ g : Nat, v = .slice (some ⟨g, 0, none⟩) 1 1 ∧ w.heap[g]? = some (.cells (bytCs [by8]).toArray 5 (0, 0))),
      .turns (fun v w' => OwnB w' wm.heap.size v (putL L ++ [by8])) (fun _ _ => True),
      .makes (fun v w => ∃ (gT : Nat) (A : Option Addr) (c : Nat), v = .slice (some ⟨gT, 0, none⟩) 4 4 ∧ nB + 1 ≤ c ∧ w.heap[gT]? = some (.cells #[.slice A5 raw.length c5, .slice (some ⟨tG, 0, none⟩) nB tC, .slice (some ⟨bG, bO, none⟩) K vC, .slice A (nB + 1) c] 66 (0, 0)) ∧ RdB w A (putL L ++ [by8])),
      .is (.int .i64 4),
      .is (Value.int .i64 (0))])
    (fin := [15]) (cs := []) (by kernel_rfl) rfl (by kernel_rfl) (by kernel_rfl)
    ⟨trivial, trivial, trivial, trivial, trivial, trivial, trivial, trivial, trivial, grows_pure _, trivial, (fun _ _ _ h hb => OwnB.past h hb), trivial, (fun _ _ _ ⟨g, h1, h2⟩ hb => ⟨g, h1, heap_keep h2 hb⟩), (fun _ _ _ h hb => OwnB.past h hb), (fun _ _ _ ⟨gT, A, c, h1, h2, h3, h4⟩ hb => ⟨gT, A, c, h1, h2, heap_keep h3 hb, h4.past hb⟩), trivial, trivial, trivial⟩ (fun _ _ _ _ => trivial) (by simp) (by simp) trivial
    ⟨?_, ?_, ?_, ?_, ?_, ?_, ?_, ?_, ?_, ?_, ?_, ?_, ?_, ?_, ?_, ?_, ?_, ?_, trivial⟩ ?_
  · intro vals w1 hB _ hd
    clear hd
    refine one_value (v := Value.slice A5 raw.length c5) rfl ?_ (post_is rfl)
    kernel_rfl
  · intro vals w1 hB _ hd
    clear hd
    refine one_value (v := Value.slice (some ⟨tG, 0, none⟩) nB tC) rfl ?_ (post_is rfl)
    kernel_rfl
  · intro vals w1 hB _ hd
    clear hd
    refine one_value (v := Value.slice (some ⟨bG, bO, none⟩) nB vC) rfl ?_ (post_is rfl)
    kernel_rfl
  · intro vals w1 hB _ hd
    clear hd
    refine one_value (v := Value.int .i64 (at_)) rfl ?_ (post_is rfl)
    kernel_rfl
  · intro vals w1 hB _ hd
    clear hd
    refine one_value (v := .int .i64 M) rfl ?_ (post_is rfl)
    exact Eq.trans (b := .ok (.value (.int .i64 (bits .and .i64 at_ 65535))) w1) (by kernel_rfl) (by rw [hM])
  · intro vals w1 hB _ hd
    clear hd
    refine one_value (v := Value.slice (some ⟨bG, bO, none⟩) nB vC) rfl ?_ (post_is rfl)
    kernel_rfl
  · intro vals w1 hB _ hd
    clear hd
    refine one_value (v := Value.int .i64 ((nB : Int))) rfl ?_ (post_is rfl)
    kernel_rfl
  · intro vals w1 hB _ hd
    clear hd
    refine one_value (v := .int .i64 (K : Int)) rfl ?_ (post_is rfl)
    exact (exec_rem rfl (by kernel_rfl) (by kernel_rfl) hn0).trans (by rw [hKt])
  · intro vals w1 hB _ hd
    clear hd
    refine one_value (v := .slice (some ⟨bG, bO, none⟩) K vC) rfl ?_ (post_is rfl)
    exact exec_cut13 rfl (by kernel_rfl) (by kernel_rfl) Try.underlying66 (cut_byt_run (some ⟨bG, bO, none⟩) nB vC K (by omega) hbc w1)
  · intro vals w1 hB _ hd
    clear hd
    exact one_makes (v := .slice (some ⟨w1.heap.size, 0, none⟩) 0 0) (w' := w1.alloc (.cells #[] 5)) rfl (by kernel_rfl) (post_makes rfl ⟨w1.heap.size, rfl⟩ (below_alloc_self _ _))
  · intro vals w1 hB _ hd
    clear hd
    refine one_value (v := Value.slice (some ⟨bG, bO, none⟩) nB vC) rfl ?_ (post_is rfl)
    kernel_rfl
  · intro vals w1 hB _ hd
    obtain ⟨g, e1⟩ : ∃ g : Nat, vals 9 = .slice (some ⟨g, 0, none⟩) 0 0 := hd 9 (by kernel_rfl)
    clear hd
    obtain ⟨v', w', hrun, ho, hg⟩ := append_fresh w1 g bG bO nB vC (putL L) hnb (by omega) (by omega) (HRB.out.past hB)
    refine one_append_run rfl (.tmp 111) (.tmp 112) 66 rfl (sv := .slice (some ⟨g, 0, none⟩) 0 0) (xv := .slice (some ⟨bG, bO, none⟩) nB vC) ?_ (by kernel_rfl) hrun (post_makes rfl (OwnB.lower ho hB.size) (below_none13 hg))
    rw [vals_at e1]
    kernel_rfl
  · intro vals w1 hB _ hd
    clear hd
    refine one_value (v := Value.int .u8 (by8.toNat : Int)) rfl ?_ (post_is rfl)
    kernel_rfl
  · intro vals w1 hB _ hd
    clear hd
    exact one_makes (v := .slice (some ⟨w1.heap.size, 0, none⟩) 1 1) (w' := w1.alloc (.cells (bytCs [by8]).toArray 5)) rfl (by kernel_rfl) (post_makes rfl ⟨w1.heap.size, rfl, heap_alloc_new w1 _⟩ (below_alloc_self _ _))
  · intro vals w1 hB _ hd
    have d1 : OwnB w1 wm.heap.size (vals 11) (putL L) := hd 11 (by kernel_rfl)
    obtain ⟨g, e5, hh⟩ : ∃ g : Nat, vals 13 = .slice (some ⟨g, 0, none⟩) 1 1 ∧ w1.heap[g]? = some (.cells (bytCs [by8]).toArray 5 (0, 0)) := hd 13 (by kernel_rfl)
    clear hd
    refine one_append rfl (.tmp 113) (.tmp 115) _ rfl wm.heap.size _ _ 1 1 Try.underlying66 info_byte rfl (by omega) (v := vals 11) (by kernel_rfl) d1 (A := some ⟨g, 0, none⟩) (m := 1) (c := 1) ?_ (reads_block (cs := bytCs [by8]) hh rfl) (bytCs_one_cell [by8]) (by simp only [maxLen]; omega) (by omega) (by have := hB.size; omega) ?_
    · rw [vals_at e5]
      kernel_rfl
    intro v2 w2 h1 h2 h3
    have h1 : OwnB w2 wm.heap.size v2 (putL L ++ [by8]) := by unfold OwnB; rw [bytCs_append, List.length_append]; exact h1
    exact post_turns rfl h1 (hB.grown h2 (by have := hB.size; omega) (fun k hk => (World.ownsRow.lt d1 k hk).1)) trivial h2.size trivial
  · intro vals w1 hB _ hd
    have d6 : OwnB w1 wm.heap.size (vals 14) (putL L ++ [by8]) := hd 14 (by kernel_rfl)
    clear hd
    obtain ⟨A6, c6, e6, hc6, r6⟩ := OwnB.shape d6
    rw [List.length_append, List.length_singleton, hnb] at e6 hc6
    exact one_makes (v := .slice (some ⟨w1.heap.size, 0, none⟩) 4 4) (w' := w1.alloc (.cells #[.slice A5 raw.length c5, .slice (some ⟨tG, 0, none⟩) nB tC, .slice (some ⟨bG, bO, none⟩) K vC, .slice A6 (nB + 1) c6] 66)) rfl (by rw [vals_at e6]; kernel_rfl) (post_makes rfl ⟨w1.heap.size, A6, c6, rfl, hc6, heap_alloc_new w1 _, r6.past (below_alloc_self _ _)⟩ (below_alloc_self _ _))
  · intro vals w1 hB _ hd
    obtain ⟨gT, A7, c7, e7, -⟩ : ∃ (gT : Nat) (A : Option Addr) (c : Nat), vals 15 = .slice (some ⟨gT, 0, none⟩) 4 4 ∧ nB + 1 ≤ c ∧ w1.heap[gT]? = some (.cells #[.slice A5 raw.length c5, .slice (some ⟨tG, 0, none⟩) nB tC, .slice (some ⟨bG, bO, none⟩) K vC, .slice A (nB + 1) c] 66 (0, 0)) ∧ RdB w1 A (putL L ++ [by8]) := hd 15 (by kernel_rfl)
    clear hd
    refine one_value (v := .int .i64 4) rfl ?_ (post_is rfl)
    rw [vals_at e7]
    kernel_rfl
  · intro vals w1 hB _ hd
    clear hd
    refine one_value (v := Value.int .i64 (0)) rfl ?_ (post_is rfl)
    kernel_rfl
  intro vals w17 b17 _ hr
  simp only [fillT, Tell.is, Tell.makes, Tell.turns, Act.put, List.setIfInBounds_toArray, List.set_cons_zero, List.set_cons_succ]
  obtain ⟨gT, A7, c7, e7, hc7, hT, r7⟩ : ∃ (gT : Nat) (A : Option Addr) (c : Nat), vals 15 = .slice (some ⟨gT, 0, none⟩) 4 4 ∧ nB + 1 ≤ c ∧ w17.heap[gT]? = some (.cells #[.slice A5 raw.length c5, .slice (some ⟨tG, 0, none⟩) nB tC, .slice (some ⟨bG, bO, none⟩) K vC, .slice A (nB + 1) c] 66 (0, 0)) ∧ RdB w17 A (putL L ++ [by8]) := hr 15 (by simp) (by simp)
  have e7' : vals (0 + 1 + 1 + 1 + 1 + 1 + 1 + 1 + 1 + 1 + 1 + 1 + 1 + 1 + 1 + 1) = .slice (some ⟨gT, 0, none⟩) 4 4 := e7
  rw [e7']
  generalize vals (0 + 1 + 1 + 1 + 1 + 1 + 1 + 1 + 1 + 1) = x111
  generalize vals (0 + 1 + 1 + 1 + 1 + 1 + 1 + 1 + 1 + 1 + 1 + 1) = x113
  generalize vals (0 + 1 + 1 + 1 + 1 + 1 + 1 + 1 + 1 + 1 + 1 + 1 + 1 + 1) = x115
  generalize vals (0 + 1 + 1 + 1 + 1 + 1 + 1 + 1 + 1 + 1 + 1 + 1 + 1 + 1 + 1) = x116
  have WX := Kept.mk (WM.out.trans (b17.mono WM.out.size))
  have HRB := Kept.mk (HRB.out.past b17)
  have HR5 := Kept.mk (HR5.out.past b17)
  have HRT := Kept.mk (HRT.out.past b17)
  have HR7 := Kept.mk r7
  have HTX := Kept.mk hT
  clear hr e7 e7' hT r7 b17 WM hn0 hKt hM hK
  go_wp2_with fail
  go_loopw [119] (fun iv wr => ∃ k : Nat, k ≤ 4 ∧ iv = .int .i64 ((k : Nat) : Int) ∧ Below w17.heap.size w17 wr) (fun iv _ => 4 - (intOf iv).toNat)
  case atStart => exact ⟨0, by omega, rfl, Below.refl _ _⟩
  case round =>
    obtain ⟨k, hk, rfl, hbr⟩ := hrel
    have HBR := Kept.mk hbr
    by_cases hlt : k < 4
    · have hki : (k : Int) < 4 := by omega
      have hrow : ∃ (AY : Option Addr) (nY cY : Nat) (Y : List UInt8), Y.length = nY ∧ nY ≤ cY ∧ nY ≤ 100000 ∧ wr.cell? ⟨gT, k, none⟩ = some (.slice AY nY cY) ∧ RdB wr AY Y := by
        have hX := heap_keep HTX.out hbr
        have : k = 0 ∨ k = 1 ∨ k = 2 ∨ k = 3 := by omega
        rcases this with rfl | rfl | rfl | rfl
        · exact ⟨A5, raw.length, c5, raw, rfl, hc5, by omega, cell_of_row wr gT 0 _ _ _ hX, HR5.out.past hbr⟩
        · exact ⟨_, nB, tC, _, hTn, htc, by omega, cell_of_row wr gT 1 _ _ _ hX, HRT.out.past hbr⟩
        · exact ⟨_, K, vC, (putL L).take K, by rw [List.length_take]; omega, by omega, by omega, cell_of_row wr gT 2 _ _ _ hX, (RdB.to HRB.out (k := K) (by omega)).past hbr⟩
        · exact ⟨A7, nB + 1, c7, _, by rw [List.length_append, List.length_singleton, hnb], hc7, by omega, cell_of_row wr gT 3 _ _ _ hX, HR7.out.past hbr⟩
      obtain ⟨AY, nY, cY, Y, hYn, hYc, hY1, hcell, hrY⟩ := hrow
      have HRY := Kept.mk hrY
      clear hbr hrY
      go_wp2_with fail
      refine (parse_any AY nY cY Y wr hYn hYc HRY.out hY1).mono ?_
      rintro en wy ⟨cz, is_, rfl, bY, hy, hn⟩
      obtain ⟨⟨z0, z1, z2, z3, ⟨zmA, zmN, zmC⟩, ⟨zsA, zsN, zsC⟩, zpc⟩, ⟨zbA, zbN, zbC⟩, ⟨zqA, zqN, zqC⟩, zf⟩ := cz
      have HYY := Kept.mk hy
      have HNN := Kept.mk hn
      clear hy hn hcell
      go_upto_region 16 with (fail)
      have bX := below_alloc_self wy (.cells #[.int .i64 (z0), .int .i64 (z1), .int .i64 (z2), .int .i64 (z3), .slice zmA zmN zmC, .slice zsA zsN zsC, .int .i64 (zpc), .slice zbA zbN zbC, .slice zqA zqN zqC, .int .i64 (zf)] 41)
      have X24 := heap_alloc_new wy (.cells #[.int .i64 (z0), .int .i64 (z1), .int .i64 (z2), .int .i64 (z3), .slice zmA zmN zmC, .slice zsA zsN zsC, .int .i64 (zpc), .slice zbA zbN zbC, .slice zqA zqN zqC, .int .i64 (zf)] 41)
      have HBY := Kept.mk bX
      have hb := bY.trans (bX.mono bY.size)
      have HRY := Kept.mk (HRY.out.past hb)
      have HBR := Kept.mk (HBR.out.trans (hb.mono HBR.out.size))
      clear bX bY hb
      generalize wy.alloc (.cells #[.int .i64 (z0), .int .i64 (z1), .int .i64 (z2), .int .i64 (z3), .slice zmA zmN zmC, .slice zsA zsN zsC, .int .i64 (zpc), .slice zbA zbN zbC, .slice zqA zqN zqC, .int .i64 (zf)] 41) = wz at *
      obtain ⟨S24, hS24⟩ : ∃ S, wy.heap.size = S := ⟨_, rfl⟩
      rw [hS24] at X24 ⊢
      have XKZ : Kept (∀ w1, Below wz.heap.size wz w1 → CellsAt w1 S24 0 [.int .i64 (z0), .int .i64 (z1), .int .i64 (z2), .int .i64 (z3), .slice zmA zmN zmC, .slice zsA zsN zsC, .int .i64 (zpc), .slice zbA zbN zbC, .slice zqA zqN zqC, .int .i64 (zf)]) := ⟨fun w1 hb => CellsAt.of_block (heap_keep X24 hb)⟩
      have wk1 : IntKind.i64.wrap ((k : Int) + 1) = (k : Int) + 1 := IntWalk.i64_in _ (by omega)
      clear X24
      cases is_ with
      | true =>
        obtain ⟨mz, hcz, -, hput, h64z, hlz⟩ := HYY.out rfl
        have hcz := hcz.past HBY.out
        have hln := cfInts_length mz
        have HZC : Kept (∀ w1, Below wz.heap.size wz w1 → Calls Try.prog 52 #[Cnf.v (⟨⟨z0, z1, z2, z3, ⟨zmA, zmN, zmC⟩, ⟨zsA, zsN, zsC⟩, zpc⟩, ⟨zbA, zbN, zbC⟩, ⟨zqA, zqN, zqC⟩, zf⟩ : Cnf)] w1 (GivesB w1 Y)) := ⟨fun w1 hb => by
          have h := conf_code (⟨⟨z0, z1, z2, z3, ⟨zmA, zmN, zmC⟩, ⟨zsA, zsN, zsC⟩, zpc⟩, ⟨zbA, zbN, zbC⟩, ⟨zqA, zqN, zqC⟩, zf⟩ : Cnf) mz w1 (hcz.past hb) h64z (by omega) (by omega) (by omega) (by omega)
          rw [hput] at h
          exact h⟩
        clear hcz hput h64z hlz hln HYY HNN HBY hS24
        refine region_tell (wz.heap.size) (G := fun _ => True) (ts := [
            .is (Value.bool true),
            .is (Value.bool true),
            .is (Value.agg #[.int .i64 (z0), .int .i64 (z1), .int .i64 (z2), .int .i64 (z3), .slice zmA zmN zmC, .slice zsA zsN zsC, .int .i64 (zpc), .slice zbA zbN zbC, .slice zqA zqN zqC, .int .i64 (zf)]),
            .makes (fun v w' => OwnB w' wz.heap.size v Y),
            .is (.string ⟨Y.toArray⟩),
            .is (Value.slice AY nY cY),
            .is (.string ⟨Y.toArray⟩),
            .is (.bool false),
            .is (Value.bool false),
            .is (Value.bool false),
            .is (Value.bool true),
            .is (Value.bool false),
            .is (Value.bool false),
            .is undef,
            .is undef,
            .is undef,
            .is undef,
            .is (Value.bool false),
            .is (Value.bool false)])
          (fin := []) (cs := []) (by kernel_rfl) rfl (by kernel_rfl) (by kernel_rfl)
          ⟨trivial, trivial, trivial, (fun _ _ _ h hb => OwnB.past h hb), trivial, trivial, trivial, trivial, trivial, trivial, trivial, trivial, trivial, trivial, trivial, trivial, trivial, trivial, trivial, trivial⟩ (fun _ _ _ _ => trivial) (by simp) (by simp) trivial
          ⟨?_, ?_, ?_, ?_, ?_, ?_, ?_, ?_, ?_, ?_, ?_, ?_, ?_, ?_, ?_, ?_, ?_, ?_, ?_, trivial⟩ ?_
        · intro vals w1 hB _ hd
          clear hd
          refine one_value (v := Value.bool true) rfl ?_ (post_is rfl)
          kernel_rfl
        · intro vals w1 hB _ hd
          clear hd
          refine one_value (v := Value.bool true) rfl ?_ (post_is rfl)
          kernel_rfl
        · intro vals w1 hB _ hd
          clear hd
          refine one_value_g (v := Value.agg #[.int .i64 (z0), .int .i64 (z1), .int .i64 (z2), .int .i64 (z3), .slice zmA zmN zmC, .slice zsA zsN zsC, .int .i64 (zpc), .slice zbA zbN zbC, .slice zqA zqN zqC, .int .i64 (zf)]) (by kernel_rfl) ?_ (post_is rfl)
          exact exec_load_row rfl (b := S24) (off := 0) (by kernel_rfl) [.int .i64 (z0), .int .i64 (z1), .int .i64 (z2), .int .i64 (z3), .slice zmA zmN zmC, .slice zsA zsN zsC, .int .i64 (zpc), .slice zbA zbN zbC, .slice zqA zqN zqC, .int .i64 (zf)] (XKZ.out w1 hB) Try.underlying41 rfl (by kernel_rfl)
        · intro vals w1 hB _ hd
          clear hd
          refine one_calls_g (f := 52) (args := #[.agg #[.int .i64 (z0), .int .i64 (z1), .int .i64 (z2), .int .i64 (z3), .slice zmA zmN zmC, .slice zsA zsN zsC, .int .i64 (zpc), .slice zbA zbN zbC, .slice zqA zqN zqC, .int .i64 (zf)]]) (w1 := w1) (by kernel_rfl) (by kernel_rfl) ?_
          refine (HZC.out w1 hB).mono ?_
          rintro e1 w3 ⟨v3, rfl, ho, hb⟩
          exact ⟨_, rfl, post_makes rfl (OwnB.lower ho hB.size) hb⟩
        · intro vals w1 hB _ hd
          have da : OwnB w1 wz.heap.size (vals 3) Y := hd 3 (by kernel_rfl)
          clear hd
          obtain ⟨A6, c6, e6, _, r6⟩ := OwnB.shape da
          refine one_value_g (v := .string ⟨Y.toArray⟩) (by kernel_rfl) ?_ (post_is rfl)
          rw [vals_at e6]
          have hst := run_string (w := w1) (c := c6) r6 hYn
          simp only [fillT, Tell.is, Tell.draws, Tell.makes, Tell.gets, Act.put, List.setIfInBounds_toArray, List.set_cons_zero, List.set_cons_succ]
          go_simp
        · intro vals w1 hB _ hd
          clear hd
          refine one_value_g (v := Value.slice AY nY cY) (by kernel_rfl) ?_ (post_is rfl)
          kernel_rfl
        · intro vals w1 hB _ hd
          clear hd
          refine one_value_g (v := .string ⟨Y.toArray⟩) (by kernel_rfl) ?_ (post_is rfl)
          have hst := run_string (w := w1) (c := cY) (HRY.out.past hB) hYn
          simp only [fillT, Tell.is, Tell.draws, Tell.makes, Tell.gets, Act.put, List.setIfInBounds_toArray, List.set_cons_zero, List.set_cons_succ]
          go_simp
        · intro vals w1 hB _ hd
          clear hd
          refine one_value_g (v := .bool false) (by kernel_rfl) ?_ (post_is rfl)
          refine Eq.trans (b := .ok (.value (.bool (!(((⟨Y.toArray⟩ : ByteArray).toList == (⟨Y.toArray⟩ : ByteArray).toList))))) w1) (by kernel_rfl) ?_
          rw [str_eq, decide_eq_true rfl]
          rfl
        · intro vals w1 hB _ hd
          clear hd
          refine one_value (v := Value.bool false) rfl ?_ (post_is rfl)
          kernel_rfl
        · intro vals w1 hB _ hd
          clear hd
          refine one_value (v := Value.bool false) rfl ?_ (post_is rfl)
          kernel_rfl
        · intro vals w1 hB _ hd
          clear hd
          refine one_value_g (v := Value.bool true) (by kernel_rfl) ?_ (post_is rfl)
          kernel_rfl
        · intro vals w1 hB _ hd
          clear hd
          refine one_value_g (v := Value.bool false) (by kernel_rfl) ?_ (post_is rfl)
          kernel_rfl
        · intro vals w1 hB _ hd
          clear hd
          refine one_value_g (v := Value.bool false) (by kernel_rfl) ?_ (post_is rfl)
          kernel_rfl
        · intro vals w1 hB _ hd
          clear hd
          exact one_not (by kernel_rfl) (post_is rfl)
        · intro vals w1 hB _ hd
          clear hd
          exact one_not (by kernel_rfl) (post_is rfl)
        · intro vals w1 hB _ hd
          clear hd
          exact one_not (by kernel_rfl) (post_is rfl)
        · intro vals w1 hB _ hd
          clear hd
          exact one_not (by kernel_rfl) (post_is rfl)
        · intro vals w1 hB _ hd
          clear hd
          refine one_value_g (v := Value.bool false) (by kernel_rfl) ?_ (post_is rfl)
          kernel_rfl
        · intro vals w1 hB _ hd
          clear hd
          refine one_value (v := Value.bool false) rfl ?_ (post_is rfl)
          kernel_rfl
        intro vals w19 b19 _ hr
        clear hr
        simp only [fillT, Tell.is, Tell.makes, Act.put, List.setIfInBounds_toArray, List.set_cons_zero, List.set_cons_succ]
        have HBR := Kept.mk (HBR.out.trans (b19.mono HBR.out.size))
        go_wp2_with fail
        go_roundw
        case rel => exact ⟨k + 1, by omega, by go_num, HBR.out⟩
        case measure => simp [intOf]; omega
      | false =>
        have hz := (HNN.out rfl).1
        have HCZ : Kept (∀ w1, CfIs w1 (⟨⟨z0, z1, z2, z3, ⟨zmA, zmN, zmC⟩, ⟨zsA, zsN, zsC⟩, zpc⟩, ⟨zbA, zbN, zbC⟩, ⟨zqA, zqN, zqC⟩, zf⟩ : Cnf) Conf.zero) := ⟨fun w1 => by
          rw [hz]
          exact ⟨⟨rfl, rfl, rfl, rfl, RdIs.nil, RdIs.nil, rfl⟩, RdEs.nil, RdIs.nil, rfl⟩⟩
        clear hz HYY HNN HBY hS24
        refine region_tell (wz.heap.size) (G := fun _ => True) (ts := [
            .is (Value.bool false),
            .is (Value.bool false),
            .is undef,
            .is undef,
            .is undef,
            .is undef,
            .is undef,
            .is undef,
            .is (Value.bool false),
            .is (Value.bool false),
            .is (Value.bool false),
            .is (Value.bool true),
            .is (Value.bool true),
            .is (Value.agg #[.int .i64 (z0), .int .i64 (z1), .int .i64 (z2), .int .i64 (z3), .slice zmA zmN zmC, .slice zsA zsN zsC, .int .i64 (zpc), .slice zbA zbN zbC, .slice zqA zqN zqC, .int .i64 (zf)]),
            .is (Value.agg #[.int .i64 (0), .int .i64 (0), .int .i64 (0), .int .i64 (0), .slice none 0 0, .slice none 0 0, .int .i64 (0), .slice none 0 0, .slice none 0 0, .int .i64 (0)]),
            .draws (.bool true),
            .is (Value.bool false),
            .is (Value.bool false),
            .is (Value.bool false)])
          (fin := []) (cs := []) (by kernel_rfl) rfl (by kernel_rfl) (by kernel_rfl)
          ⟨trivial, trivial, trivial, trivial, trivial, trivial, trivial, trivial, trivial, trivial, trivial, trivial, trivial, trivial, trivial, trivial, trivial, trivial, trivial, trivial⟩ (fun _ _ _ _ => trivial) (by simp) (by simp) trivial
          ⟨?_, ?_, ?_, ?_, ?_, ?_, ?_, ?_, ?_, ?_, ?_, ?_, ?_, ?_, ?_, ?_, ?_, ?_, ?_, trivial⟩ ?_
        · intro vals w1 hB _ hd
          clear hd
          refine one_value (v := Value.bool false) rfl ?_ (post_is rfl)
          kernel_rfl
        · intro vals w1 hB _ hd
          clear hd
          refine one_value (v := Value.bool false) rfl ?_ (post_is rfl)
          kernel_rfl
        · intro vals w1 hB _ hd
          clear hd
          exact one_not (by kernel_rfl) (post_is rfl)
        · intro vals w1 hB _ hd
          clear hd
          exact one_not (by kernel_rfl) (post_is rfl)
        · intro vals w1 hB _ hd
          clear hd
          exact one_not (by kernel_rfl) (post_is rfl)
        · intro vals w1 hB _ hd
          clear hd
          exact one_not (by kernel_rfl) (post_is rfl)
        · intro vals w1 hB _ hd
          clear hd
          exact one_not (by kernel_rfl) (post_is rfl)
        · intro vals w1 hB _ hd
          clear hd
          exact one_not (by kernel_rfl) (post_is rfl)
        · intro vals w1 hB _ hd
          clear hd
          refine one_value (v := Value.bool false) rfl ?_ (post_is rfl)
          kernel_rfl
        · intro vals w1 hB _ hd
          clear hd
          refine one_value (v := Value.bool false) rfl ?_ (post_is rfl)
          kernel_rfl
        · intro vals w1 hB _ hd
          clear hd
          refine one_value_g (v := Value.bool false) (by kernel_rfl) ?_ (post_is rfl)
          kernel_rfl
        · intro vals w1 hB _ hd
          clear hd
          refine one_value_g (v := Value.bool true) (by kernel_rfl) ?_ (post_is rfl)
          kernel_rfl
        · intro vals w1 hB _ hd
          clear hd
          refine one_value_g (v := Value.bool true) (by kernel_rfl) ?_ (post_is rfl)
          kernel_rfl
        · intro vals w1 hB _ hd
          clear hd
          refine one_value_g (v := Value.agg #[.int .i64 (z0), .int .i64 (z1), .int .i64 (z2), .int .i64 (z3), .slice zmA zmN zmC, .slice zsA zsN zsC, .int .i64 (zpc), .slice zbA zbN zbC, .slice zqA zqN zqC, .int .i64 (zf)]) (by kernel_rfl) ?_ (post_is rfl)
          exact exec_load_row rfl (b := S24) (off := 0) (by kernel_rfl) [.int .i64 (z0), .int .i64 (z1), .int .i64 (z2), .int .i64 (z3), .slice zmA zmN zmC, .slice zsA zsN zsC, .int .i64 (zpc), .slice zbA zbN zbC, .slice zqA zqN zqC, .int .i64 (zf)] (XKZ.out w1 hB) Try.underlying41 rfl (by kernel_rfl)
        · intro vals w1 hB _ hd
          clear hd
          refine one_value_g (v := Value.agg #[.int .i64 (0), .int .i64 (0), .int .i64 (0), .int .i64 (0), .slice none 0 0, .slice none 0 0, .int .i64 (0), .slice none 0 0, .slice none 0 0, .int .i64 (0)]) (by kernel_rfl) ?_ (post_is rfl)
          kernel_rfl
        · intro vals w1 hB _ hd
          clear hd
          refine one_calls_g (f := 30) (args := #[.agg #[.int .i64 (z0), .int .i64 (z1), .int .i64 (z2), .int .i64 (z3), .slice zmA zmN zmC, .slice zsA zsN zsC, .int .i64 (zpc), .slice zbA zbN zbC, .slice zqA zqN zqC, .int .i64 (zf)], Cnf.zero.v]) (w1 := w1) (by kernel_rfl) (by kernel_rfl) ?_
          refine (same9 (⟨⟨z0, z1, z2, z3, ⟨zmA, zmN, zmC⟩, ⟨zsA, zsN, zsC⟩, zpc⟩, ⟨zbA, zbN, zbC⟩, ⟨zqA, zqN, zqC⟩, zf⟩ : Cnf) Cnf.zero Conf.zero Conf.zero w1 (HCZ.out w1) ⟨⟨rfl, rfl, rfl, rfl, RdIs.nil, RdIs.nil, rfl⟩, RdEs.nil, RdIs.nil, rfl⟩ (by decide) (by decide) (by decide) (by decide) (by decide) (by decide) (by decide) (by decide)).mono ?_
          rw [decide_eq_true rfl]
          rintro e1 w3 ⟨rfl, hb⟩
          exact ⟨_, rfl, post_draws rfl hb⟩
        · intro vals w1 hB _ hd
          clear hd
          refine one_value_g (v := Value.bool false) (by kernel_rfl) ?_ (post_is rfl)
          kernel_rfl
        · intro vals w1 hB _ hd
          clear hd
          refine one_value_g (v := Value.bool false) (by kernel_rfl) ?_ (post_is rfl)
          kernel_rfl
        · intro vals w1 hB _ hd
          clear hd
          refine one_value (v := Value.bool false) rfl ?_ (post_is rfl)
          kernel_rfl
        intro vals w19 b19 _ hr
        clear hr
        simp only [fillT, Tell.is, Tell.draws, Act.put, List.setIfInBounds_toArray, List.set_cons_zero, List.set_cons_succ]
        have HBR := Kept.mk (HBR.out.trans (b19.mono HBR.out.size))
        go_wp2_with fail
        go_roundw
        case rel => exact ⟨k + 1, by omega, by go_num, HBR.out⟩
        case measure => simp [intOf]; omega
    · have hki : ¬ (k : Int) < 4 := by omega
      go_wp2_with fail
      refine (HAW.out wr).mono ?_
      rintro en wq ⟨rfl, bq⟩
      have WQ := Kept.mk ((WX.out.trans (hbr.mono WX.out.size)).trans (bq.mono (Nat.le_trans WX.out.size hbr.size)))
      clear bq
      go_wp2_with fail
      go_ret
      exact ⟨rfl, WQ.out⟩

set_option maxRecDepth 100000 in
theorem ctell_long (A2 : Option Addr) (c2 : Nat) (mk : List Int) (A3 : Option Addr) (c3 : Nat) (l : List Int) (A4 : Option Addr) (c4 : Nat) (wk : List Int) (A5 : Option Addr) (c5 : Nat) (raw : List UInt8) (at_ by_ : Int) (w : World) (h5 : 500 < raw.length) :
    Calls Try.prog 16 #[.slice A2 mk.length c2, .slice A3 l.length c3, .slice A4 wk.length c4, .slice A5 raw.length c5, .int .i64 at_, .int .u8 by_] w (SaysTrue w) := by
  have HAW := Kept.mk awake13
  have h5a : (500 : Int) < (raw.length : Int) := by omega
  go_enter Try.func16, Try.ntmps16
  go_wp2_with fail
  refine (HAW.out w).mono ?_
  rintro en wz ⟨rfl, bz⟩
  have W := Kept.mk bz
  clear bz
  go_wp2_with fail
  go_ret
  exact ⟨rfl, W.out⟩
theorem ctell_law (A2 : Option Addr) (c2 : Nat) (mk : List Int) (A3 : Option Addr) (c3 : Nat) (l : List Int) (A4 : Option Addr) (c4 : Nat) (wk : List Int) (A5 : Option Addr) (c5 : Nat) (raw : List UInt8) (at_ by_ : Int) (w : World) (_hc2 : mk.length ≤ c2) (_hm2 : c2 ≤ maxLen) (hr2 : RdI w A2 mk) (_ok2 : ∀ x ∈ mk, -9223372036854775808 ≤ x ∧ x ≤ 9223372036854775807) (_hc3 : l.length ≤ c3) (_hm3 : c3 ≤ maxLen) (hr3 : RdI w A3 l) (_ok3 : ∀ x ∈ l, -9223372036854775808 ≤ x ∧ x ≤ 9223372036854775807) (_hc4 : wk.length ≤ c4) (_hm4 : c4 ≤ maxLen) (hr4 : RdI w A4 wk) (_ok4 : ∀ x ∈ wk, -9223372036854775808 ≤ x ∧ x ≤ 9223372036854775807) (hc5 : raw.length ≤ c5) (_hm5 : c5 ≤ maxLen) (hr5 : RdB w A5 raw) (_ha : -9223372036854775808 ≤ at_ ∧ at_ ≤ 9223372036854775807) (hby : 0 ≤ by_ ∧ by_ ≤ 255) :
    Calls Try.prog 16 #[.slice A2 mk.length c2, .slice A3 l.length c3, .slice A4 wk.length c4, .slice A5 raw.length c5, .int .i64 at_, .int .u8 by_] w (SaysTrue w) := by
  by_cases h5 : raw.length ≤ 500
  · exact ctell_walk A2 c2 mk A3 c3 l A4 c4 wk A5 c5 raw at_ by_ w hr2 hr3 hr4 hc5 hr5 hby h5
  · exact ctell_long A2 c2 mk A3 c3 l A4 c4 wk A5 c5 raw at_ by_ w (by omega)
end Go.Proofs.Ytchldbkjapnlcaa
