/- The law CodeUnlike: two rows have the same bytes just if they are the same. -/
import Derived.Test.YtlkejledgghjnaaCodi
import Derived.Test.YtlkejledgghjnaaOwnS
import Derived.Test.YtlkejledgghjnaaMask
namespace Go.Proofs.Ytlkejledgghjnaa
open Go.RowKit

set_option maxRecDepth 100000 in
set_option maxHeartbeats 4000000 in
theorem unlike_walk (A : Option Addr) (c : Nat) (a : List Int) (A' : Option Addr) (c' : Nat) (b : List Int) (at_ tv : Int) (w : World) (_hc : a.length ≤ c) (_hm : c ≤ maxLen) (hr : RdI w A a) (hi : ∀ x ∈ a, -9223372036854775808 ≤ x ∧ x ≤ 9223372036854775807)
    (hc' : b.length ≤ c') (_hm' : c' ≤ maxLen) (hr' : RdI w A' b) (hi' : ∀ x ∈ b, -9223372036854775808 ≤ x ∧ x ≤ 9223372036854775807) (_ha : -9223372036854775808 ≤ at_ ∧ at_ ≤ 9223372036854775807) (hto : -9223372036854775808 ≤ tv ∧ tv ≤ 9223372036854775807) :
    Calls Try.prog 7 #[.slice A a.length c, .slice A' b.length c', .int .i64 at_, .int .i64 tv] w (SaysTrue w) := by
  have HR := Kept.mk hr
  have HR' := Kept.mk hr'
  have HI : Kept (∀ x ∈ a, I64 x) := ⟨hi⟩
  have HI' : Kept (∀ x ∈ b, I64 x) := ⟨hi'⟩
  have HTO : Kept (I64 tv) := ⟨hto⟩
  clear hr hi hr' hi' hto
  by_cases h100 : 100 < a.length
  · go_enter Try.func7, Try.ntmps7
    go_wp2_with fail
    refine (awake2 _).mono ?_
    rintro en w4 ⟨rfl, b4⟩
    go_wp2_with fail
    go_ret
    exact ⟨rfl, b4⟩
  by_cases h100' : 100 < b.length
  · go_enter Try.func7, Try.ntmps7
    go_wp2_with fail
    refine (awake2 _).mono ?_
    rintro en w4 ⟨rfl, b4⟩
    go_wp2_with fail
    go_ret
    exact ⟨rfl, b4⟩
  go_enter Try.func7, Try.ntmps7
  go_wp2_with (at_builtin; go_must (refine append_nums _ rfl (.tmp 26) (.tmp 27) rfl w.heap.size rfl (OwnI.made (Nat.le_refl _)) rfl (HR.out.past (below_alloc_self _ _)) (by simp; omega) (by simp) ?_))
  intro v1 w1 h1 _ b1
  obtain ⟨A1, c1, rfl, hc1, r1⟩ := h1.shape
  have B1 := Kept.mk ((below_alloc_self w _).trans b1)
  have O1 := Kept.mk h1
  clear h1 r1 b1
  go_upto_if 31 with fail
  go_cut [] from 31 to 39 (fun wx => ∃ D : List Int, D.length = a.length ∧ (∀ x ∈ D, I64 x) ∧ OwnI wx w.heap.size (.slice A1 a.length c1) D ∧ Below w.heap.size w wx)
  case first =>
    rcases Nat.eq_zero_or_pos a.length with h0 | hpos
    · have hle : ¬ (0 : Int) < a.length := by omega
      clear h0
      go_wp2_with fail
      go_meet
      exact ⟨a, rfl, HI.out, O1.out, B1.out⟩
    · have hz : ((a.length : Int) == 0) = false := by rw [beq_eq_false_iff_ne]; omega
      obtain ⟨M, hM, hM0, hM1⟩ := mask65535 at_
      obtain ⟨K, hK, hK1⟩ : ∃ K : Nat, M % (a.length : Int) = K ∧ K < a.length := ⟨(M % (a.length : Int)).toNat, by have := Int.emod_nonneg M (show (a.length : Int) ≠ 0 by omega); omega, by have := Int.emod_lt_of_pos M (show (0 : Int) < a.length by omega); have := Int.emod_nonneg M (show (a.length : Int) ≠ 0 by omega); omega⟩
      obtain ⟨g, rfl, hg0, hg1, q0, hfz⟩ := O1.out.elem hK1
      have hpz : (0 : Int) < a.length := by omega
      have HD : Kept (∀ x ∈ a.set K tv, I64 x) := ⟨fun x hx => by
        rcases List.mem_or_eq_of_mem_set hx with h | h
        · exact HI.out x h
        · rw [h]; exact HTO.out⟩
      go_wp2_with fail
      go_meet
      exact ⟨a.set K tv, by simp, HD.out, O1.out.setAt rfl K tv, B1.out.setCell (p := ⟨g, K, Option.none⟩) hg0 _⟩
  case rest =>
    obtain ⟨D, hDl, hDi, hDo, hDb⟩ := hcut
    have OD := Kept.mk hDo
    have BD := Kept.mk hDb
    have ID := Kept.mk hDi
    have LD := Kept.mk hDl
    clear hDo hDb hDi hDl O1
    go_wp2_with (at_builtin; go_must (refine append_nums _ rfl (.tmp 42) (.tmp 43) rfl wc.heap.size rfl (OwnI.made (Nat.le_refl _)) rfl ((HR.out.past BD.out).past (below_alloc_self _ _)) (by simp; omega) (by simp) ?_))
    intro v2 w2 h2 _ b2
    have b2 := (below_alloc_self wc _).trans b2
    have O2 := Kept.mk h2
    have BX2 := Kept.mk b2
    clear h2 b2
    go_wp2_with (at_builtin; go_must (refine append_int _ rfl (.tmp 44) (.tmp 46) rfl wc.heap.size rfl (O2.out.past (below_alloc_self _ _)) _ tv rfl (heap_at_new (by simp)) (by omega) ?c1 ?_))
    case c1 => have := BX2.out.size; simp; omega
    intro v3 w3 h3 _ b3
    obtain ⟨A3, c3, rfl, hc3, r3⟩ := h3.shape
    have BX3 := Kept.mk (BX2.out.trans (((below_alloc_self w2 _).mono BX2.out.size).trans b3))
    have B3 := Kept.mk (BD.out.trans (BX3.out.mono BD.out.size))
    have RA := Kept.mk (HR.out.past B3.out)
    have RB := Kept.mk (HR'.out.past B3.out)
    obtain ⟨AD, cD, eD, hcD, rD⟩ := OD.out.shape
    have HA1 : A1 = AD ∧ c1 = cD := by injection eD with h1 _ h2; exact ⟨h1, h2⟩
    obtain ⟨rfl, rfl⟩ := HA1
    have RDD := Kept.mk (rD.past BX3.out)
    rw [List.length_append, List.length_singleton] at hc3 ⊢
    have HROWS : Kept (∀ k, k < 3 → ∃ A2 X c2, (#[Value.slice A' b.length c', .slice A1 a.length c1, .slice A3 (a.length + 1) c3] : Array Value)[k]? = some (.slice A2 X.length c2) ∧ RdI w3 A2 X ∧ (∀ x ∈ X, I64 x) ∧ X.length ≤ 101 ∧ X.length ≤ c2) := ⟨fun k hk => by
      match k, hk with
      | 0, _ => exact ⟨A', b, c', rfl, RB.out, HI'.out, by omega, hc'⟩
      | 1, _ => exact ⟨A1, D, c1, by rw [LD.out]; rfl, RDD.out, ID.out, by have := LD.out; omega, hcD⟩
      | 2, _ => exact ⟨A3, a ++ [tv], c3, by simp, r3, fun x hx => by
          rcases List.mem_append.1 hx with h | h
          · exact HI.out x h
          · rw [List.mem_singleton.1 h]; exact HTO.out, by simp; omega, by simp; omega⟩⟩
    clear b3 h3 r3 eD rD OD O2 BX2 BX3 RDD RB
    go_wp2_with fail
    go_loopw [50] (fun iv wr => ∃ k : Nat, k ≤ 3 ∧ iv = .int .i64 k ∧ Below (w3.heap.size + 1) (w3.alloc (.cells #[Value.slice A' b.length c', .slice A1 a.length c1, .slice A3 (a.length + 1) c3] 22)) wr) (fun iv _ => 3 - (intOf iv).toNat)
    case atStart => exact ⟨0, by omega, rfl, Below.refl _ _⟩
    case round =>
      obtain ⟨k, hk, rfl, hb⟩ := hrel
      have HB := Kept.mk hb
      have HG := Kept.mk ((hb.block w3.heap.size (by omega)).trans (heap_alloc_new w3 _))
      have BW := Kept.mk ((below_alloc_self w3 _).trans (hb.mono (by omega)))
      clear hb
      by_cases hk3 : k < 3
      · obtain ⟨A2, X, c2, hcell, hrX, hX64, hXl, hc2⟩ := HROWS.out k hk3
        have hq := (cell_of_row wr w3.heap.size k _ _ _ HG.out).trans hcell
        have RX := Kept.mk (hrX.past BW.out)
        have RA1 := Kept.mk (RA.out.past BW.out)
        have HX := Kept.mk hX64
        clear hcell hrX hX64
        go_wp2_with fail
        refine (code_put A _ c a _ rfl RA1.out HI.out (by omega)).mono ?_
        rintro en w5 ⟨vp, rfl, hp, bp⟩
        obtain ⟨Ap, cp, rfl, hcp, rp⟩ := hp.shape
        have RP := Kept.mk rp
        have RX1 := Kept.mk (RX.out.past bp)
        have RA2 := Kept.mk (RA1.out.past bp)
        have B5 := Kept.mk (HB.out.trans (bp.mono (by have := HB.out.size; simpa using this)))
        clear hp rp bp RX RA1 hq
        go_wp2_with fail
        refine (code_put A2 _ c2 X _ rfl RX1.out HX.out (by omega)).mono ?_
        rintro en w6 ⟨vq, rfl, hp, bp⟩
        obtain ⟨Aq, cq, rfl, hcq, rq⟩ := hp.shape
        have RQ := Kept.mk rq
        have RP1 := Kept.mk (RP.out.past bp)
        have RX2 := Kept.mk (RX1.out.past bp)
        have RA3 := Kept.mk (RA2.out.past bp)
        have B6 := Kept.mk (B5.out.trans (bp.mono (by have := B5.out.size; simpa using this)))
        clear hp rq bp RX1 RA2 RP
        go_wp2_with fail
        refine (same_ints A A2 c c2 a X _ RA3.out RX2.out (by omega)).mono ?_
        rintro en w7 ⟨rfl, bp⟩
        have RQ1 := Kept.mk (RQ.out.past bp)
        have RP2 := Kept.mk (RP1.out.past bp)
        have RX3' := Kept.mk (RX2.out.past bp)
        have B7 := Kept.mk (B6.out.trans (bp.mono (by have := B6.out.size; simpa using this)))
        clear bp RX2 RA3 RP1 RQ
        go_wp2_with fail
        refine (code_get Aq _ cq (putL X) _ rfl hcq RQ1.out (by have := (putL_length_le X).2; omega)).mono ?_
        rintro en w8 ⟨m, ok, A9, c9, hg⟩
        obtain ⟨rfl, rfl⟩ := hg.of_row (l := X) HX.out rfl
        obtain ⟨rfl, hc9, -, r9, bp, -, -, -⟩ := hg
        have R9 := Kept.mk r9
        have RQ3 := Kept.mk (RQ1.out.past bp)
        have RP3 := Kept.mk (RP2.out.past bp)
        have RX3 := Kept.mk (RX3'.out.past bp)
        have B8 := Kept.mk (B7.out.trans (bp.mono (by have := B7.out.size; simpa using this)))
        clear bp r9 RQ1 RP2 RX3'
        have hsp := run_string (c := cp) RP3.out rfl
        have hsq := run_string (c := cq) RQ3.out rfl
        by_cases hax : a = m
        · have heq : (putL a == putL m) = true := by rw [hax]; simp
          have H1 : Kept (lessB (putL a) (putL m) = false) := ⟨by rw [hax]; exact less_self _⟩
          have H2 : Kept (lessB (putL m) (putL a) = false) := ⟨by rw [hax]; exact less_self _⟩
          have hd : decide (a = m) = true := by simp [hax]
          rw [hd]
          clear hd hax
          go_wp2_with fail
          refine (same_ints A2 A9 c2 c9 m m _ RX3.out R9.out (by omega)).mono ?_
          rintro en w10 ⟨rfl, b10⟩
          rw [decide_eq_true (rfl : m = m)]
          have B10 := Kept.mk (B8.out.trans (b10.mono (by have := B8.out.size; simp at this; omega)))
          have Hp := Kept.mk (RP3.out.past b10)
          have Hq := Kept.mk (RQ3.out.past b10)
          clear b10 hsp hsq heq
          go_wp2_with fail
          refine (code_less Ap Aq _ _ cp cq (putL a) (putL m) _ rfl rfl Hp.out Hq.out).mono ?_
          rintro en w9 ⟨rfl, hw⟩
          have hw9 := hw.symm
          subst hw9
          clear hw
          rw [H1.out]
          go_wp2_with fail
          refine (code_less Ap Aq _ _ cp cq (putL a) (putL m) _ rfl rfl Hp.out Hq.out).mono ?_
          rintro en w9 ⟨rfl, hw⟩
          have hw9 := hw.symm
          subst hw9
          clear hw
          rw [H1.out]
          go_wp2_with fail
          refine (code_less Aq Ap _ _ cq cp (putL m) (putL a) _ rfl rfl Hq.out Hp.out).mono ?_
          rintro en w9 ⟨rfl, hw⟩
          have hw9 := hw.symm
          subst hw9
          clear hw
          rw [H2.out]
          go_wp2_with fail
          go_roundw
          case rel => exact ⟨k + 1, by omega, by go_num, B10.out⟩
          case measure => simp [intOf]; omega
        · have hne : putL a ≠ putL m := fun e => hax (putL_inj a m HI.out HX.out e)
          have heq : (putL a == putL m) = false := by simpa using hne
          have hone := less_one (putL a) (putL m)
          have hboth := less_not_both (putL a) (putL m)
          have hd : decide (a = m) = false := by simp [hax]
          rw [decide_eq_false hne] at hone
          rw [hd]
          clear hd hax hne
          cases h1 : lessB (putL a) (putL m) with
          | true =>
            rw [h1] at hboth
            have H1 := Kept.mk h1
            have H2 : Kept (lessB (putL m) (putL a) = false) := ⟨by simpa using hboth⟩
            clear h1 hone hboth
            go_wp2_with fail
            refine (same_ints A2 A9 c2 c9 m m _ RX3.out R9.out (by omega)).mono ?_
            rintro en w10 ⟨rfl, b10⟩
            rw [decide_eq_true (rfl : m = m)]
            have B10 := Kept.mk (B8.out.trans (b10.mono (by have := B8.out.size; simp at this; omega)))
            have Hp := Kept.mk (RP3.out.past b10)
            have Hq := Kept.mk (RQ3.out.past b10)
            clear b10 hsp hsq heq
            go_wp2_with fail
            refine (code_less Ap Aq _ _ cp cq (putL a) (putL m) _ rfl rfl Hp.out Hq.out).mono ?_
            rintro en w9 ⟨rfl, hw⟩
            have hw9 := hw.symm
            subst hw9
            clear hw
            rw [H1.out]
            go_wp2_with fail
            refine (code_less Aq Ap _ _ cq cp (putL m) (putL a) _ rfl rfl Hq.out Hp.out).mono ?_
            rintro en w9 ⟨rfl, hw⟩
            have hw9 := hw.symm
            subst hw9
            clear hw
            rw [H2.out]
            go_wp2_with fail
            refine (code_less Ap Aq _ _ cp cq (putL a) (putL m) _ rfl rfl Hp.out Hq.out).mono ?_
            rintro en w9 ⟨rfl, hw⟩
            have hw9 := hw.symm
            subst hw9
            clear hw
            rw [H1.out]
            go_wp2_with fail
            go_roundw
            case rel => exact ⟨k + 1, by omega, by go_num, B10.out⟩
            case measure => simp [intOf]; omega
          | false =>
            rw [h1] at hone
            have H1 := Kept.mk h1
            have H2 : Kept (lessB (putL m) (putL a) = true) := ⟨by simpa using hone⟩
            clear h1 hone hboth
            go_wp2_with fail
            refine (same_ints A2 A9 c2 c9 m m _ RX3.out R9.out (by omega)).mono ?_
            rintro en w10 ⟨rfl, b10⟩
            rw [decide_eq_true (rfl : m = m)]
            have B10 := Kept.mk (B8.out.trans (b10.mono (by have := B8.out.size; simp at this; omega)))
            have Hp := Kept.mk (RP3.out.past b10)
            have Hq := Kept.mk (RQ3.out.past b10)
            clear b10 hsp hsq heq
            go_wp2_with fail
            refine (code_less Ap Aq _ _ cp cq (putL a) (putL m) _ rfl rfl Hp.out Hq.out).mono ?_
            rintro en w9 ⟨rfl, hw⟩
            have hw9 := hw.symm
            subst hw9
            clear hw
            rw [H1.out]
            go_wp2_with fail
            refine (code_less Ap Aq _ _ cp cq (putL a) (putL m) _ rfl rfl Hp.out Hq.out).mono ?_
            rintro en w9 ⟨rfl, hw⟩
            have hw9 := hw.symm
            subst hw9
            clear hw
            rw [H1.out]
            go_wp2_with fail
            refine (code_less Aq Ap _ _ cq cp (putL m) (putL a) _ rfl rfl Hq.out Hp.out).mono ?_
            rintro en w9 ⟨rfl, hw⟩
            have hw9 := hw.symm
            subst hw9
            clear hw
            rw [H2.out]
            go_wp2_with fail
            go_roundw
            case rel => exact ⟨k + 1, by omega, by go_num, B10.out⟩
            case measure => simp [intOf]; omega
      · go_wp2_with fail
        refine (awake2 _).mono ?_
        rintro en w4 ⟨rfl, b4⟩
        have B4 := Kept.mk (B3.out.trans ((BW.out.trans (b4.mono BW.out.size)).mono B3.out.size))
        clear b4
        go_wp2_with fail
        go_ret
        exact ⟨rfl, B4.out⟩
end Go.Proofs.Ytlkejledgghjnaa
