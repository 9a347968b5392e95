/- The law OsetPlays: keys come, are there, and have places and ranks, as the document says, up to the most. -/
import Derived.Test.YtonlefopjpdecaaReg3
import Derived.Test.YtonlefopjpdecaaRanks
import Derived.Test.YtonlefopjpdecaaOpenR
import Derived.Test.YtonlefopjpdecaaMask
namespace Go.Proofs.Ytonlefopjpdecaa
open Go.RowKit Go.Maps

set_option maxRecDepth 100000 in
set_option maxHeartbeats 8000000 in
theorem oplays_walk (most : Int) (A : Option Addr) (c : Nat) (l : List (List UInt8)) (Aa : Option Addr) (ca : Nat) (ask : List Int) (w : World) (_hmo : -9223372036854775808 ≤ most ∧ most ≤ 9223372036854775807) (_hc : l.length ≤ c) (_hm : c ≤ maxLen) (hr : RdR w A l)
    (_hca : ask.length ≤ ca) (_hma : ca ≤ maxLen) (hra : RdI w Aa ask) (hia : ∀ x ∈ ask, -9223372036854775808 ≤ x ∧ x ≤ 9223372036854775807) :
    Calls Try.prog 6 #[.int .i64 most, .slice A l.length c, .slice Aa ask.length ca] w (SaysTrue w) := by
  have HR := Kept.mk hr
  have HRA := Kept.mk hra
  have HIA := Kept.mk hia
  unfold maxLen at _hm _hma
  obtain ⟨M3, hM3, hM30, hM31⟩ := mask3 most
  obtain ⟨M31, hM, hMa, hMb⟩ := mask31 most
  clear hr hra hia
  go_enter Try.func6, Try.ntmps6
  go_upto_if 23 with fail
  go_cut [0] from 22 to 25 (fun v wx => ∃ mo : Int, v = .int .i64 mo ∧ wx = w)
  case first =>
    by_cases h3 : 0 < M3
    · go_wp2_with fail
      go_meet
      exact ⟨M31, rfl, rfl⟩
    · have h3' : M3 ≤ 0 := by omega
      go_wp2_with fail
      go_meet
      exact ⟨most, rfl, rfl⟩
  case rest =>
    obtain ⟨mo, rfl, rfl⟩ := hcut
    clear hM3 hM
    go_wp2_with fail
    refine (new_set mo _).mono ?_
    rintro en w1 ⟨rfl, h1, b1⟩
    obtain ⟨K, hK⟩ : ∃ K, (min (max mo 0) 1000000).toNat = K := ⟨_, rfl⟩
    rw [hK] at h1
    have H1 := Kept.mk h1
    have B1 := Kept.mk b1
    have SZ1 : Kept (wc.heap.size + 2 ≤ w1.heap.size) := ⟨by have := h1.lt; omega⟩
    clear h1 b1
    go_wp2_with fail
    refine (ref_new mo _).mono ?_
    rintro en w2 ⟨rfl, h2, b2⟩
    rw [hK] at h2
    have HS2 := Kept.mk (H1.out.past b2)
    have HT2 : Kept (RefAt w2 wc.heap.size w1.heap.size (.slice none 0 0) (.slice none 0 0) K [] []) := ⟨⟨B1.out.size, h2.hT, own_lower h2.keys B1.out.size, own_lower h2.ranks B1.out.size, h2.ranked, h2.nd, h2.le, h2.big⟩⟩
    have B2 := Kept.mk (B1.out.trans (b2.mono B1.out.size))
    clear h2 b2 H1 B1 hK
    go_wp2_with fail
    go_loopw [9] (fun iv wr => ∃ (i : Nat) (v vL vP : Value) (L : List (List UInt8)) (P : List Nat), i ≤ l.length ∧ i ≤ 60 ∧ iv = .int .i64 i ∧ Kept (∀ x ∈ L, x.length ≤ 100) ∧ SetAt wr wc.heap.size (wc.heap.size + 1) wc.heap.size v K L ∧ RefAt wr wc.heap.size w1.heap.size vL vP K L P ∧
      Kept (∀ g, v.ownBlock = some g → vL.ownBlock ≠ some g) ∧ Below wc.heap.size wc wr) (fun iv _ => l.length - (intOf iv).toNat)
    case atStart => exact ⟨0, _, _, _, [], [], by omega, by omega, rfl, ⟨by simp⟩, HS2.out, HT2.out, ⟨by simp [Value.ownBlock]⟩, B2.out⟩
    case round =>
      obtain ⟨i, v, vL, vP, L, P, hil, hi60, rfl, hsh, hs, ht, hdis, hbel⟩ := hrel
      have HS0 := Kept.mk hs
      have HT0 := Kept.mk ht
      have BB0 := Kept.mk hbel
      clear hs ht hbel HS2 HT2 B2
      by_cases hlt : i < l.length ∧ i < 60
      · obtain ⟨hlt1, hlt2⟩ := hlt
        have hlt1' : (i : Int) < (l.length : Int) := by omega
        have hlt2' : (i : Int) < 60 := by omega
        obtain ⟨b, o, A1, c1, rfl, hbl, q0, hc1, hm1, hr1⟩ := HR.out i hlt1
        have HRW := Kept.mk hr1
        have HQC : Kept (∀ wk, Below wc.heap.size wc wk → wk.cell? ⟨b, o + i, none⟩ = some (.slice A1 l[i].length c1)) := ⟨fun wk hk => (hk.cell (p := ⟨b, o + i, none⟩) hbl).trans q0⟩
        have q1 := HQC.out _ BB0.out
        clear hr1 q0
        by_cases h100 : 100 < l[i].length
        · have h100' : (100 : Int) < (l[i].length : Int) := by omega
          go_wp2_with fail
          refine (awake3 _).mono ?_
          rintro en w4 ⟨rfl, b4⟩
          have B4 := Kept.mk (BB0.out.trans (b4.mono BB0.out.size))
          clear b4
          go_wp2_with fail
          go_ret
          exact ⟨rfl, B4.out⟩
        have h100' : (l[i].length : Int) ≤ 100 := by omega
        have hsm : l[i].length ≤ maxLen := by unfold maxLen; omega
        obtain ⟨th, hth⟩ : ∃ x, decide (l[i] ∈ L) = x := ⟨_, rfl⟩
        obtain ⟨RK, hRK⟩ : ∃ x, rankOf L l[i] = x := ⟨_, rfl⟩
        have HTH := Kept.mk hth
        have HRK := Kept.mk hRK
        clear hth hRK
        go_wp2_with fail
        refine (find_is HT0.out A1 _ c1 l[i] rfl (HRW.out.past BB0.out)).mono ?_
        rintro en wr3 ⟨rfl, b3⟩
        rw [HTH.out]
        have HS := Kept.mk (HS0.out.past b3)
        have HT := Kept.mk (HT0.out.past b3)
        have BB := Kept.mk (BB0.out.trans (b3.mono BB0.out.size))
        clear b3 HS0 HT0 BB0 q1
        go_upto_region 12 with fail
        refine rc12 wr3 _ _ _ _ _ i b o c c1 _ _ _ L P A1 l hlt1 hlt1' HS HT ⟨fun w1' hB => HRW.out.past (BB.out.trans (hB.mono BB.out.size))⟩ ⟨fun w1' hB => HQC.out w1' (BB.out.trans (hB.mono BB.out.size))⟩ th RK hsm HTH HRK _ ?_
        intros
        rename_i wr4 hB
        have HS4 := Kept.mk (HS.out.past hB)
        have HT4 := Kept.mk (HT.out.past hB)
        have BB4 := Kept.mk (BB.out.trans (hB.mono BB.out.size))
        have q4 := HQC.out _ BB4.out
        obtain ⟨pa, hpa⟩ : ∃ x, putAt L K l[i] = x := ⟨_, rfl⟩
        obtain ⟨fr, hfr⟩ : ∃ x, putNew L K l[i] = x := ⟨_, rfl⟩
        obtain ⟨ok, hok⟩ : ∃ x, putOk L K l[i] = x := ⟨_, rfl⟩
        obtain ⟨L1, hL1⟩ : ∃ x, putKey L K l[i] = x := ⟨_, rfl⟩
        have HPA := Kept.mk hpa
        have HFR := Kept.mk hfr
        have HOK := Kept.mk hok
        have HL1 := Kept.mk hL1
        have HSH : Kept (∀ x ∈ L1, x.length ≤ 100) := ⟨by rw [← hL1]; exact putKey_short hsh.out (by omega)⟩
        clear hpa hfr hok hL1 hB HS HT BB HRK HTH
        go_wp2_with fail
        refine (add_gen HS4.out A1 _ c1 l[i] rfl (HRW.out.past BB4.out) hsm).mono ?_
        rintro en wr5 ⟨rfl, v1, hs5, t5, ho5⟩
        rw [HPA.out, HFR.out, HOK.out]
        rw [HL1.out] at hs5
        have ht5 := RefAt.beside HS4.out HT4.out t5 hdis.out
        have hd5 : Kept (∀ g, v1.ownBlock = some g → vL.ownBlock ≠ some g) := ⟨fun g hg hv => by
          rcases ho5 with e | ⟨g', e, hge⟩
          · exact hdis.out g (e ▸ hg) hv
          · rw [e] at hg
            injection hg with hg
            have := (World.ownsRow.lt HT4.out.keys g hv).2
            omega⟩
        have HS5 := Kept.mk hs5
        have HT5 := Kept.mk ht5
        have BB5 := Kept.mk (BB4.out.trans (Touch.below HS4.out t5 BB4.out.size))
        have q5 := HQC.out _ BB5.out
        clear hs5 ht5 t5 ho5 HS4 HT4 BB4 q4 hdis
        go_wp2_with fail
        refine (radd_gen HT5.out A1 _ c1 l[i] rfl (Reads.below HRW.out BB5.out) BB5.out.size).mono ?_
        rintro en wr6 ⟨rfl, vL1, vP1, P1, ht6, t6, ho6⟩
        rw [HPA.out, HFR.out, HOK.out]
        rw [HL1.out] at ht6
        have hs6 := SetAt.besideR HT5.out HS5.out t6 hd5.out
        have HD1 : Kept (∀ g, v1.ownBlock = some g → vL1.ownBlock ≠ some g) := ⟨fun g hg hv => by
          rcases ho6 with e | ⟨g', e, hge⟩
          · exact hd5.out g hg (e ▸ hv)
          · rw [e] at hv
            injection hv with hv
            have := (World.ownsRow.lt HS5.out.row g hg).2
            omega⟩
        have HS := Kept.mk hs6
        have HT := Kept.mk ht6
        have BB := Kept.mk (BB5.out.trans (TouchR.below HT5.out t6 BB5.out.size))
        obtain ⟨RK, hRK⟩ : ∃ x, rankOf L1 l[i] = x := ⟨_, rfl⟩
        have HRK := Kept.mk hRK
        obtain ⟨AL, cL, AP, cP, eL, eP, hcL, hcP, rL, rP⟩ := ht6.shapes
        have hz1 := cell_of_row wr6 w1.heap.size 1 _ _ _ ht6.hT
        have hz1 : wr6.cell? ⟨w1.heap.size, 1, none⟩ = some (.slice AL L1.length cL) := by rw [hz1, eL]; rfl
        have hTl6 := ht6.lt
        have HZ1 : Kept (∀ wk, Below wr6.heap.size wr6 wk → wk.cell? ⟨w1.heap.size, 1, none⟩ = some (.slice AL L1.length cL)) := ⟨fun wk hk => (hk.cell (p := ⟨w1.heap.size, 1, none⟩) hTl6).trans hz1⟩
        clear hs6 ht6 t6 ho6 hRK HS5 HT5 BB5 q5 hd5 rL rP eL eP hz1 hTl6
        go_upto_region 16 with fail
        refine rc16 wr6 _ _ _ _ _ i b o c c1 _ _ _ L1 P1 A1 l hlt1 hlt1' HS HT ⟨fun w1' hB => HRW.out.past (BB.out.trans (hB.mono BB.out.size))⟩ ⟨fun w1' hB => HQC.out w1' (BB.out.trans (hB.mono BB.out.size))⟩ pa fr ok RK cL AL HRK HZ1 _ ?_
        intros
        rename_i wr7 hB
        have HS7 := Kept.mk (HS.out.past hB)
        have HT7 := Kept.mk (HT.out.past hB)
        have BB7 := Kept.mk (BB.out.trans (hB.mono BB.out.size))
        have hab : ∀ (hi : i < ask.length), ∃ b2 o2, Aa = some ⟨b2, o2, none⟩ ∧ wr7.cell? ⟨b2, o2 + i, none⟩ = some (.int .i64 (ask[i]'hi)) := fun hi => by
          obtain ⟨b2, o2, e2, _, hq⟩ := (HRA.out.past BB7.out).at_ hi
          exact ⟨b2, o2, e2, hq⟩
        have HAB := Kept.mk hab
        clear hab hB HS HT BB HZ1 HRK
        go_upto_if 143 with fail
        go_cut [18] from 32 to 190 (fun v wx => ∃ kk : Int, v = .int .i64 kk ∧ wx = wr7)
        case first =>
          by_cases hia : i < ask.length
          · obtain ⟨b2, o2, rfl, qa⟩ := HAB.out hia
            have hia' : (i : Int) < (ask.length : Int) := by omega
            go_wp2_with fail
            go_meet
            exact ⟨ask[i], rfl, rfl⟩
          · have hia' : (ask.length : Int) ≤ (i : Int) := by omega
            go_wp2_with fail
            go_meet
            exact ⟨i, rfl, rfl⟩
        case rest =>
          obtain ⟨kk, rfl, hwx⟩ := hcut
          have hwx' := hwx.symm
          subst hwx'
          clear hwx HAB HPA HFR HOK HL1
          by_cases hkk : 0 ≤ kk ∧ kk < (L1.length : Int)
          · obtain ⟨q, rfl⟩ := Int.eq_ofNat_of_zero_le hkk.1
            have hq : q < L1.length := by omega
            obtain ⟨x, hx⟩ : ∃ x, L1[q] = x := ⟨_, rfl⟩
            have HX := Kept.mk hx
            have HM0 : Kept (decide ((0 : Int) ≤ (q : Int)) = true) := ⟨by simp⟩
            have HM1 : Kept (decide ((q : Int) < (L1.length : Int)) = true) := ⟨by simpa using hq⟩
            clear hkk hx
            go_wp2_with fail
            refine (at_key_is HS7.out q hq x HX.out).mono ?_
            rintro en wr8 ⟨c8, rfl, hcp, b8⟩
            have HX8 := Kept.mk hcp.reads
            have HS8 := Kept.mk (HS7.out.past b8)
            have HT8 := Kept.mk (HT7.out.past b8)
            have BB8 := Kept.mk (BB7.out.trans (b8.mono BB7.out.size))
            obtain ⟨g8, hg8⟩ : ∃ g8, wr7.heap.size = g8 := ⟨_, rfl⟩
            rw [hg8] at HX8 ⊢
            clear hg8 hcp b8
            obtain ⟨AL, cL, AP, cP, eL, eP, hcL, hcP, rL, rP⟩ := HT8.out.shapes
            have hz1 := cell_of_row wr8 w1.heap.size 1 _ _ _ HT8.out.hT
            have hz1 : wr8.cell? ⟨w1.heap.size, 1, none⟩ = some (.slice AL L1.length cL) := by rw [hz1, eL]; rfl
            have hTl8 := HT8.out.lt
            have HZ1 : Kept (∀ wk, Below wr8.heap.size wr8 wk → wk.cell? ⟨w1.heap.size, 1, none⟩ = some (.slice AL L1.length cL)) := ⟨fun wk hk => (hk.cell (p := ⟨w1.heap.size, 1, none⟩) hTl8).trans hz1⟩
            have HZL := Kept.mk (rL : RdS wr8 AL L1)
            clear rP eL eP hz1 rL
            obtain ⟨gL, oL, rfl, hgL, qL⟩ := HZL.out.at_ hq
            have HZ4 : Kept (∀ wk, Below wr8.heap.size wr8 wk → wk.cell? ⟨gL, oL + q, none⟩ = some (.string ⟨x.toArray⟩)) := ⟨fun wk hk => by rw [hk.cell (p := ⟨gL, oL + q, none⟩) hgL, qL, HX.out]⟩
            clear qL hTl8
            go_upto_region 22 with fail
            refine rc22in wr8 _ _ i b o c cL l L1 q g8 c8 gL oL x hq HM0 HM1 HX8 HZ1 HZ4 _ ?_
            intros
            rename_i w1' hB
            go_wp2
            go_roundw
            case rel => exact ⟨i + 1, v1, vL1, vP1, L1, P1, by omega, by omega, by go_num, HSH, HS8.out.past hB, HT8.out.past hB, HD1, BB8.out.trans (hB.mono BB8.out.size)⟩
            case measure => simp [intOf]; omega
          · have hor : kk < 0 ∨ (0 ≤ kk ∧ (L1.length : Int) ≤ kk) := by omega
            clear hkk
            go_wp2_with fail
            refine (at_no HS7.out kk (by omega)).mono ?_
            rintro en wr8 ⟨rfl, hw⟩
            subst hw
            have HS8 := HS7
            have HT8 := HT7
            have BB8 := BB7
            clear HS7 HT7 BB7
            obtain ⟨AL, cL, AP, cP, eL, eP, hcL, hcP, rL, rP⟩ := HT8.out.shapes
            have hz1 := cell_of_row wr8 w1.heap.size 1 _ _ _ HT8.out.hT
            have hz1 : wr8.cell? ⟨w1.heap.size, 1, none⟩ = some (.slice AL L1.length cL) := by rw [hz1, eL]; rfl
            have hTl8 := HT8.out.lt
            have HZ1 : Kept (∀ wk, Below wr8.heap.size wr8 wk → wk.cell? ⟨w1.heap.size, 1, none⟩ = some (.slice AL L1.length cL)) := ⟨fun wk hk => (hk.cell (p := ⟨w1.heap.size, 1, none⟩) hTl8).trans hz1⟩
            clear rL rP eL eP hz1 hTl8
            rcases hor with h1 | ⟨h1, h2⟩
            · have HM0 : Kept (decide ((0 : Int) ≤ kk) = false) := ⟨by simp; omega⟩
              go_upto_region 22 with fail
              refine rc22neg wr8 _ _ i b o c l kk HM0 _ ?_
              intros
              rename_i w1' hB
              go_wp2
              go_roundw
              case rel => exact ⟨i + 1, v1, vL1, vP1, L1, P1, by omega, by omega, by go_num, HSH, HS8.out.past hB, HT8.out.past hB, HD1, BB8.out.trans (hB.mono BB8.out.size)⟩
              case measure => simp [intOf]; omega
            · have HM0 : Kept (decide ((0 : Int) ≤ kk) = true) := ⟨by simpa using h1⟩
              have HM1 : Kept (decide (kk < (L1.length : Int)) = false) := ⟨by simp; omega⟩
              go_upto_region 22 with fail
              refine rc22far wr8 _ _ i b o c cL l L1 AL kk HM0 HM1 HZ1 _ ?_
              intros
              rename_i w1' hB
              go_wp2
              go_roundw
              case rel => exact ⟨i + 1, v1, vL1, vP1, L1, P1, by omega, by omega, by go_num, HSH, HS8.out.past hB, HT8.out.past hB, HD1, BB8.out.trans (hB.mono BB8.out.size)⟩
              case measure => simp [intOf]; omega
      · have hor : (l.length : Int) ≤ (i : Int) ∨ ((i : Int) < (l.length : Int) ∧ (60 : Int) ≤ (i : Int)) := by omega
        clear hlt
        rcases hor with hx | ⟨hx, hy⟩
        all_goals
          go_wp2_with fail
          refine (awake3 _).mono ?_
          rintro en w4 ⟨rfl, b4⟩
          have B4 := Kept.mk (BB0.out.trans (b4.mono BB0.out.size))
          clear b4
          go_wp2_with fail
          go_ret
          exact ⟨rfl, B4.out⟩
end Go.Proofs.Ytonlefopjpdecaa
