/- The law CodeTells: numbers have the bytes, and bytes are the numbers, that the document says. -/
import Derived.Test.YtlkejledgghjnaaCodi
import Derived.Test.YtlkejledgghjnaaOwnS
import Derived.Test.YtlkejledgghjnaaMask
namespace Go.Proofs.Ytlkejledgghjnaa
open Go.RowKit

theorem xor_byte (x y : Int) : ∃ b : UInt8, Go.bits .xor .u8 x y = (b.toNat : Int) := by
  have h : ∃ n : Int, Go.bits .xor .u8 x y = IntKind.u8.wrap n := ⟨_, rfl⟩
  obtain ⟨n, hn⟩ := h
  refine ⟨UInt8.ofNat (IntKind.u8.wrap n).toNat, ?_⟩
  rw [hn, UInt8.toNat_ofNat', IntKind.wrap_u8]
  omega
set_option maxRecDepth 100000 in
set_option maxHeartbeats 4000000 in
theorem tells_walk (A : Option Addr) (c : Nat) (l : List Int) (A1 : Option Addr) (c1 : Nat) (b : List UInt8) (A2 : Option Addr) (c2 : Nat) (d : List UInt8) (at_ by_ : Int) (w : World) (_hc : l.length ≤ c) (_hm : c ≤ maxLen) (hr : RdI w A l) (hi : ∀ x ∈ l, -9223372036854775808 ≤ x ∧ x ≤ 9223372036854775807)
    (hc1 : b.length ≤ c1) (_hm1 : c1 ≤ maxLen) (hr1 : RdB w A1 b) (_hc2 : d.length ≤ c2) (_hm2 : c2 ≤ maxLen) (hr2 : RdB w A2 d) (_ha : -9223372036854775808 ≤ at_ ∧ at_ ≤ 9223372036854775807) (_hb : 0 ≤ by_ ∧ by_ ≤ 255) :
    Calls Try.prog 6 #[.slice A l.length c, .slice A1 b.length c1, .slice A2 d.length c2, .int .i64 at_, .int .u8 by_] w (SaysTrue w) := by
  have HR := Kept.mk hr
  have HR1 := Kept.mk hr1
  have HR2 := Kept.mk hr2
  have HI : Kept (∀ x ∈ l, I64 x) := ⟨hi⟩
  clear hr hi hr1 hr2
  by_cases h100 : 100 < l.length
  · go_enter Try.func6, Try.ntmps6
    go_wp2_with fail
    refine (awake2 _).mono ?_
    rintro en w4 ⟨rfl, b4⟩
    go_wp2_with fail
    go_ret
    exact ⟨rfl, b4⟩
  by_cases h5 : 500 < b.length
  · go_enter Try.func6, Try.ntmps6
    go_wp2_with fail
    refine (awake2 _).mono ?_
    rintro en w4 ⟨rfl, b4⟩
    go_wp2_with fail
    go_ret
    exact ⟨rfl, b4⟩
  by_cases h6 : 500 < d.length
  · go_enter Try.func6, Try.ntmps6
    go_wp2_with fail
    refine (awake2 _).mono ?_
    rintro en w4 ⟨rfl, b4⟩
    go_wp2_with fail
    go_ret
    exact ⟨rfl, b4⟩
  go_enter Try.func6, Try.ntmps6
  go_wp2_with fail
  go_loopw [1, 11] (fun bv iv wr => ∃ (q : Nat) (X : List UInt8) (AX : Option Addr) (cX : Nat), q ≤ 3 ∧ iv = .int .i64 q ∧ bv = .slice AX X.length cX ∧ X.length ≤ cX ∧ X.length ≤ 1000 ∧ RdB wr AX X ∧ Below w.heap.size w wr) (fun _ iv _ => 3 - (intOf iv).toNat)
  case atStart => exact ⟨0, b, A1, c1, by omega, rfl, rfl, hc1, by omega, HR1.out, Below.refl _ _⟩
  case round =>
    obtain ⟨q, X, AX, cX, hq, rfl, rfl, hcX, hX, hrX, hb⟩ := hrel
    have RX := Kept.mk hrX
    have B0 := Kept.mk hb
    clear hrX hb
    by_cases hq3 : q < 3
    · go_wp2_with fail
      refine (code_get AX _ cX X _ rfl hcX RX.out (by omega)).mono ?_
      rintro en w1 ⟨m, ok, A3, c3, hg⟩
      have hg0 := Kept.mk hg
      obtain ⟨rfl, hc3, hm3, r3, bp, -, -, -⟩ := hg
      have R3 := Kept.mk r3
      have RX1 := Kept.mk (RX.out.past bp)
      have B1 := Kept.mk (B0.out.trans (bp.mono B0.out.size))
      clear r3 bp
      go_wp2_with fail
      refine (ref_get AX _ cX X _ rfl hcX RX1.out (by omega)).mono ?_
      rintro en w2 ⟨m', ok', A4, c4, hg⟩
      obtain ⟨rfl, rfl⟩ := hg0.out.same hg
      obtain ⟨rfl, hc4, -, r4, bp, -, -, -⟩ := hg
      have R3' := Kept.mk (R3.out.past bp)
      have R4 := Kept.mk r4
      have RX2 := Kept.mk (RX1.out.past bp)
      have B2 := Kept.mk (B1.out.trans (bp.mono B1.out.size))
      have RL := Kept.mk (HR.out.past B2.out)
      clear r4 bp hg0 R3 RX1 B1 RX B0
      go_wp2_with fail
      refine (code_put A _ c l _ rfl RL.out HI.out (by omega)).mono ?_
      rintro en w3 ⟨vp, rfl, hp, bp⟩
      obtain ⟨Ap, cp, rfl, hcp, rp⟩ := hp.shape
      have RP := Kept.mk rp
      have R3 := Kept.mk (R3'.out.past bp)
      have R4' := Kept.mk (R4.out.past bp)
      have RX3 := Kept.mk (RX2.out.past bp)
      have RL1 := Kept.mk (RL.out.past bp)
      have B3 := Kept.mk (B2.out.trans (bp.mono B2.out.size))
      clear hp rp bp R3' R4 RX2 B2 RL
      go_wp2_with fail
      refine (ref_put A _ c l _ rfl RL1.out HI.out (by omega)).mono ?_
      rintro en w4 ⟨vq, rfl, hp, bp⟩
      obtain ⟨Aq, cq, rfl, hcq, rq⟩ := hp.shape
      have RQ := Kept.mk rq
      have RP1 := Kept.mk (RP.out.past bp)
      have R31 := Kept.mk (R3.out.past bp)
      have R41 := Kept.mk (R4'.out.past bp)
      have RX4 := Kept.mk (RX3.out.past bp)
      have RL2 := Kept.mk (RL1.out.past bp)
      have B4 := Kept.mk (B3.out.trans (bp.mono B3.out.size))
      clear hp rq bp R3 R4' RX3 B3 RL1 RP
      go_wp2_with fail
      refine (same_bytes Ap Aq _ _ cp cq (putL l) (putL l) _ rfl rfl RP1.out RQ.out).mono ?_
      rintro en w5 ⟨rfl, hw⟩
      have hw5 := hw.symm
      subst hw5
      rw [decide_eq_true (rfl : putL l = putL l)]
      clear hw RP1 RQ
      have hbe : (ok == ok) = true := by simp
      have hbn : (ok != ok) = false := by simp
      go_wp2_with fail
      refine (same_ints A3 A4 c3 c4 m m _ R31.out R41.out (by omega)).mono ?_
      rintro en w6 ⟨rfl, bp⟩
      rw [decide_eq_true (rfl : m = m)]
      have RX5 := Kept.mk (RX4.out.past bp)
      have RL3 := Kept.mk (RL2.out.past bp)
      have B6 := Kept.mk (B4.out.trans (bp.mono B4.out.size))
      have RD6 := Kept.mk (HR2.out.past B6.out)
      clear bp R31 R41 RX4 RL2 B4 hbe hbn
      obtain ⟨L1, hL1⟩ : ∃ L1, lessB X d = L1 := ⟨_, rfl⟩
      obtain ⟨L2, hL2⟩ : ∃ L2, lessB d X = L2 := ⟨_, rfl⟩
      have HL1 := Kept.mk hL1
      have HL2 := Kept.mk hL2
      clear hL1 hL2
      go_wp2_with fail
      refine (code_less AX A2 _ _ cX c2 X d _ rfl rfl RX5.out RD6.out).mono ?_
      rintro en w7 ⟨rfl, hw⟩
      have hw7 := hw.symm
      subst hw7
      rw [HL1.out]
      clear hw
      go_wp2_with fail
      refine (ref_less AX A2 _ _ cX c2 X d _ rfl rfl RX5.out RD6.out).mono ?_
      rintro en w7 ⟨rfl, hw⟩
      have hw7 := hw.symm
      subst hw7
      rw [HL1.out]
      clear hw
      have hb1 : (L1 != L1) = false := by simp
      go_wp2_with fail
      refine (code_less A2 AX _ _ c2 cX d X _ rfl rfl RD6.out RX5.out).mono ?_
      rintro en w7 ⟨rfl, hw⟩
      have hw7 := hw.symm
      subst hw7
      rw [HL2.out]
      clear hw
      go_wp2_with fail
      refine (ref_less A2 AX _ _ c2 cX d X _ rfl rfl RD6.out RX5.out).mono ?_
      rintro en w7 ⟨rfl, hw⟩
      have hw7 := hw.symm
      subst hw7
      rw [HL2.out]
      clear hw RD6 RX5
      have hb2 : (L2 != L2) = false := by simp
      go_wp2_with fail
      refine (ref_put A _ c l _ rfl RL3.out HI.out (by omega)).mono ?_
      rintro en w8 ⟨vq, rfl, hp, bp⟩
      obtain ⟨Aq, cq, rfl, hcq, rq⟩ := hp.shape
      have OQ := Kept.mk hp
      have RQ := Kept.mk rq
      have B8 := Kept.mk (B6.out.trans (bp.mono B6.out.size))
      have SZ := Kept.mk (B6.out.size)
      have hpl : (putL l).length ≤ 900 := by have := (putL_length_le l).2; omega
      clear hp rq bp B6
      have hor : q ≠ 1 ∨ (q = 1 ∧ (putL l).length = 0) ∨ (q = 1 ∧ 0 < (putL l).length) := by omega
      rcases hor with h | ⟨h, h0⟩ | ⟨h, h0⟩
      · have hq1 : ((q : Int) == 1) = false := by rw [beq_eq_false_iff_ne]; omega
        go_wp2_with fail
        go_roundw
        case rel => exact ⟨q + 1, putL l, Aq, cq, by omega, by go_num, rfl, hcq, by omega, RQ.out, B8.out⟩
        case measure => simp [intOf]; omega
      · subst h
        have hle : ¬ (0 : Int) < (putL l).length := by omega
        clear h0
        go_wp2_with fail
        go_roundw
        case rel => exact ⟨2, putL l, Aq, cq, by omega, by go_num, rfl, hcq, by omega, RQ.out, B8.out⟩
        case measure => simp [intOf]
      · subst h
        have hz : (((putL l).length : Int) == 0) = false := by rw [beq_eq_false_iff_ne]; omega
        have hpz : (0 : Int) < (putL l).length := by omega
        obtain ⟨M, hM, hM0, hM1⟩ := mask65535 at_
        obtain ⟨K, hK, hK1⟩ : ∃ K : Nat, M % ((putL l).length : Int) = K ∧ K < (putL l).length := ⟨(M % ((putL l).length : Int)).toNat, by have := Int.emod_nonneg M (show ((putL l).length : Int) ≠ 0 by omega); omega, by have := Int.emod_lt_of_pos M (show (0 : Int) < (putL l).length by omega); have := Int.emod_nonneg M (show ((putL l).length : Int) ≠ 0 by omega); omega⟩
        obtain ⟨g, rfl, hg0, hg1, q0, hfz⟩ := OQ.out.elem hK1
        obtain ⟨Y, hY⟩ := xor_byte ((putL l)[K].toNat : Int) by_
        go_wp2_with fail
        go_roundw
        case rel => exact ⟨2, (putL l).set K Y, some ⟨g, 0, Option.none⟩, cq, by omega, by go_num, by simp, by simp; exact hcq, by simp; omega, by obtain ⟨A9, c9, e9, _, r9⟩ := (OQ.out.setAt rfl K Y).shape; injection e9 with e1; rw [e1]; exact r9, B8.out.setCell (p := ⟨g, K, Option.none⟩) (Nat.le_trans SZ.out hg0) _⟩
        case measure => simp [intOf]
    · go_wp2_with fail
      refine (awake2 _).mono ?_
      rintro en w4 ⟨rfl, b4⟩
      have B4 := Kept.mk (B0.out.trans (b4.mono B0.out.size))
      clear b4
      go_wp2_with fail
      go_ret
      exact ⟨rfl, B4.out⟩
end Go.Proofs.Ytlkejledgghjnaa
