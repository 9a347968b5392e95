/- The law RobqPlays: entries come, go, are cut and changed as the document says. -/
import Derived.Test.YtdfcbfcnanpolaaAny
import Derived.Test.YtdfcbfcnanpolaaAwa9
import Derived.Test.YtdfcbfcnanpolaaMask
import Derived.Test.YtdfcbfcnanpolaaOpen
import Derived.Lib.MinMax
import Derived.Test.YtdfcbfcnanpolaaReg9
namespace Go.Proofs.Ytdfcbfcnanpolaa
open Go.RowKit

set_option maxRecDepth 100000 in
set_option maxHeartbeats 4000000 in
theorem plays_walk (A : Option Addr) (c : Nat) (l : List Ent) (e : Ent) (most : Int) (i : Int) (w : World) (hc : l.length ≤ c) (_hm : c ≤ maxLen) (hr : RdE w A l) (hok : ∀ e ∈ l, e.ok)
    (_he : e.ok) (_hmost : -9223372036854775808 ≤ most ∧ most ≤ 9223372036854775807) (_hi : -9223372036854775808 ≤ i ∧ i ≤ 9223372036854775807) :
    Calls Try.prog 6 #[.slice A l.length c, e.v, .int .i64 most, .int .i64 i] w (SaysTrue w) := by
  unfold maxLen at _hm
  have HR := Kept.mk hr
  have HK := Kept.mk hok
  clear hr hok
  by_cases h40 : 40 < l.length
  · go_enter Try.func6, Try.ntmps6
    go_wp2_with fail
    refine (awake9 _).mono ?_
    rintro en w4 ⟨rfl, b4⟩
    go_wp2_with fail
    go_ret
    exact ⟨rfl, (below_alloc_self w _).trans (b4.mono (by simp))⟩
  · show Calls Try.prog 6 #[.slice A l.length c, .agg #[.int .i64 e.pc, .int .i64 e.val, .int .i64 e.addr, .int .i64 e.frm, .int .i64 e.next, .bool e.done, .bool e.known, .bool e.fault], .int .i64 most, .int .i64 i] w (SaysTrue w)
    go_enter Try.func6, Try.ntmps6
    go_wp2_with fail
    go_loopw [2, 3, 9] (fun mv iv qv wr => ∃ (mo at_ : Int) (q : Nat), mv = .int .i64 mo ∧ iv = .int .i64 at_ ∧ qv = .int .i64 q ∧ q ≤ 2 ∧ (-9223372036854775808 ≤ mo ∧ mo ≤ 9223372036854775807) ∧ (-9223372036854775808 ≤ at_ ∧ at_ ≤ 9223372036854775807) ∧
      Below (w.heap.size + 1) (w.alloc (.cells e.cs.toArray 27)) wr) (fun _ _ qv _ => 2 - (intOf qv).toNat)
    case atStart => exact ⟨most, i, 0, rfl, rfl, rfl, by omega, _hmost, _hi, Below.refl _ _⟩
    case round =>
      obtain ⟨mo, at_, q, rfl, rfl, rfl, hq, hmo, hat, hb⟩ := hrel
      have hbx := Kept.mk ((hb.block w.heap.size (by omega)).trans (heap_alloc_new w (.cells e.cs.toArray 27)))
      have HB := Kept.mk ((below_alloc_self w (.cells e.cs.toArray 27)).trans (hb.mono (by omega)))
      have hsz : w.heap.size < wr.heap.size := by have := hb.size; simp at this; omega
      have HB1 := Kept.mk hb
      clear hb
      by_cases hq2 : q < 2
      · go_wp2_with (at_builtin; go_must (refine append_ents _ rfl (.tmp 28) (.tmp 29) rfl wr.heap.size rfl (OwnE.made (Nat.le_refl _)) rfl ((HR.out.past HB.out).past (below_alloc_self _ _)) (by simp; omega) (by simp) ?_))
        intro v1 w1 ho1 _ hb1
        obtain ⟨A1, c1, rfl, hc1, hr1⟩ := ho1.shape
        have hc1 : l.length ≤ c1 := hc1
        have HW : Kept (RdE w1 A1 l) := ⟨hr1⟩
        have hb1 : Below wr.heap.size wr w1 := (below_alloc_self wr _).trans (hb1.mono (by simp))
        have B1 := Kept.mk hb1
        have R1 := Kept.mk (HR.out.past (HB.out.trans (hb1.mono HB.out.size)))
        have X1 := Kept.mk ((hb1.block _ hsz).trans hbx.out)
        clear ho1 hr1 hb1
        obtain ⟨z0, z1, z2, z3, z4, z5, z6, z7⟩ := EntAt.of_cells (e := e) (fun j u _ hu => cells_of_block (cs := e.cs) X1.out j u hu)
        simp only [Nat.zero_add] at z0 z1 z2 z3 z4 z5 z6 z7
        go_wp2_with fail
        refine (push_any A l.length c l e mo _ rfl R1.out (by omega)).mono ?_
        rintro en w2 ⟨A2, c2, rfl, hc2, hr2, hb2⟩
        obtain ⟨np, hnp⟩ : ∃ x, (pushed l e mo).length = x := ⟨_, rfl⟩
        obtain ⟨okp, hokp⟩ : ∃ x, decide ((l.length : Int) < mo) = x := ⟨_, rfl⟩
        rw [hnp, hokp]
        have Hnp := Kept.mk hnp
        have Hokp := Kept.mk hokp
        clear hnp hokp
        have PA := Kept.mk hr2
        have B2 := Kept.mk (B1.out.trans (hb2.mono B1.out.size))
        have W2 := Kept.mk (HW.out.past hb2)
        have R2 := Kept.mk (R1.out.past hb2)
        have X2 := Kept.mk ((hb2.block _ (Nat.lt_of_lt_of_le hsz B1.out.size)).trans X1.out)
        clear hr2 hb2 z0 z1 z2 z3 z4 z5 z6 z7
        have hsm : Small l := fun x hx => (HK.out x hx).2.2.2.1
        have HSM := Kept.mk hsm
        clear hsm
        go_wp2_with fail
        refine (pop_any A l.length c l _ rfl R2.out hc (by omega) HSM.out).mono ?_
        rintro en w3 ⟨A3, c3, rfl, hc3, hr3, hb3⟩
        obtain ⟨isp, hisp⟩ : ∃ x, decide (0 < l.length) = x := ⟨_, rfl⟩
        rw [hisp]
        have Hisp := Kept.mk hisp
        clear hisp
        have PA3 := Kept.mk (PA.out.past hb3)
        have PR3 := Kept.mk hr3
        have B3 := Kept.mk (B2.out.trans (hb3.mono B2.out.size))
        have R3 := Kept.mk (R2.out.past hb3)
        have W3 := Kept.mk (W2.out.past hb3)
        have X3 := Kept.mk ((hb3.block _ (Nat.lt_of_lt_of_le hsz B2.out.size)).trans X2.out)
        clear hr3 hb3 R2 X2 B2 PA
        go_wp2_with fail
        refine (cut_row A l.length c l at_ _ rfl ?rd hc (by omega)).mono ?_
        case rd => exact R3.out.past (below_alloc_self _ _)
        rintro en w4 ⟨A4, c4, rfl, hc4, hr4, hb4⟩
        obtain ⟨nk, hnk⟩ : ∃ x, (l.take at_.toNat).length = x := ⟨_, rfl⟩
        rw [hnk]
        have Hnk := Kept.mk hnk
        clear hnk
        have D4 := Kept.mk ((hb4.block w3.heap.size (by simp)).trans (heap_alloc_new w3 _))
        have HS4 : Kept (w3.heap.size < w4.heap.size) := ⟨by have := hb4.size; simp at this; omega⟩
        have hb4 : Below w3.heap.size w3 w4 := (below_alloc_self w3 _).trans (hb4.mono (by simp))
        have PA4 := Kept.mk (PA3.out.past hb4)
        have PR4 := Kept.mk (PR3.out.past hb4)
        have PC4 := Kept.mk hr4
        have B4 := Kept.mk (B3.out.trans (hb4.mono B3.out.size))
        have R4 := Kept.mk (R3.out.past hb4)
        have W4 := Kept.mk (W3.out.past hb4)
        have X4 := Kept.mk ((hb4.block _ (Nat.lt_of_lt_of_le hsz B3.out.size)).trans X3.out)
        clear hr4 hb4 R3 X3 B3 PA3 PR3
        obtain ⟨z0, z1, z2, z3, z4, z5, z6, z7⟩ := EntAt.of_cells (e := e) (fun j u _ hu => cells_of_block (cs := e.cs) X4.out j u hu)
        simp only [Nat.zero_add] at z0 z1 z2 z3 z4 z5 z6 z7
        go_wp2_with fail
        refine (put_any A l.length c l at_ e _ rfl R4.out (by omega)).mono ?_
        rintro en w5 ⟨A5, c5, rfl, hc5, hr5, hb5⟩
        obtain ⟨nb, hnb⟩ : ∃ x, (putted l at_ e).length = x := ⟨_, rfl⟩
        obtain ⟨sob, hsob⟩ : ∃ x, decide (0 ≤ at_ ∧ at_ < (l.length : Int)) = x := ⟨_, rfl⟩
        rw [hnb, hsob]
        have Hnb := Kept.mk hnb
        have Hsob := Kept.mk hsob
        clear hnb hsob
        have PA5 := Kept.mk (PA4.out.past hb5)
        have PR5 := Kept.mk (PR4.out.past hb5)
        have PC5 := Kept.mk (PC4.out.past hb5)
        have PB5 := Kept.mk hr5
        have B5 := Kept.mk (B4.out.trans (hb5.mono B4.out.size))
        have R5 := Kept.mk (R4.out.past hb5)
        have W5 := Kept.mk (W4.out.past hb5)
        have D5 := Kept.mk ((hb5.block w3.heap.size HS4.out).trans D4.out)
        have HS5 : Kept (w3.heap.size < w5.heap.size) := ⟨Nat.lt_of_lt_of_le HS4.out hb5.size⟩
        have X5 := Kept.mk ((hb5.block _ (Nat.lt_of_lt_of_le hsz B4.out.size)).trans X4.out)
        clear hr5 hb5 W2 W3 W4 D4 HS4 R4 X4 B4 PA4 PR4 PC4 z0 z1 z2 z3 z4 z5 z6 z7
        have HSZ : Kept (w.heap.size < w5.heap.size) := ⟨by have := B5.out.size; omega⟩
        go_upto_region 11 with fail
        go_cut [97] from 24 to 198 (fun r wx => r = .bool false ∧ Below w5.heap.size w5 wx)
        case first =>
          by_cases hlt : (l.length : Int) < mo
          · have hp : pushed l e mo = l ++ [e] := if_pos hlt
            rw [hp] at hc2 PA5
            have hpl : (pushed l e mo).length = l.length + 1 := by rw [hp]; simp
            obtain ⟨hcut, hrc⟩ := cut_ent_to PA5.out hc2 l.length (by simp)
            rw [List.length_append, List.length_singleton] at hcut hc2
            rw [List.take_left] at hrc
            obtain ⟨b, o, rfl, hb0, hcl⟩ := PA5.out.load (k := l.length) (by simp)
            simp only [List.getElem_concat_length] at hcl
            have HRC := Kept.mk hrc
            have HPP := Kept.mk hp
            have HMO : Kept (decide ((l.length : Int) < mo) = true) := ⟨by simpa using hlt⟩
            clear hrc hp
            obtain rfl : np = l.length + 1 := Hnp.out.symm.trans hpl
            obtain rfl : okp = true := Hokp.out.symm.trans HMO.out
            refine r11t w w5 A c c2 b o l e mo h40 HMO HRC R5 X5 HSZ hb0 hcl hcut _ ?_
            intros
            go_wp2
            go_meet
            exact ⟨rfl, by assumption⟩
          · have hp : pushed l e mo = [] := if_neg hlt
            have hpl : (pushed l e mo).length = 0 := by rw [hp]; rfl
            have HMO : Kept (decide ((l.length : Int) < mo) = false) := ⟨by simpa using hlt⟩
            clear hp
            obtain rfl : np = 0 := Hnp.out.symm.trans hpl
            obtain rfl : okp = false := Hokp.out.symm.trans HMO.out
            refine r11f w5 A A2 c c2 l mo HMO _ ?_
            intros
            go_wp2
            go_meet
            exact ⟨rfl, by assumption⟩
        case rest =>
          obtain ⟨rfl, hb6⟩ := hcut
          obtain ⟨w6, hw6⟩ : ∃ w6 : World, w6 = wc := ⟨_, rfl⟩
          subst hw6
          have PR6 := Kept.mk (PR5.out.past hb6)
          have PC6 := Kept.mk (PC5.out.past hb6)
          have PB6 := Kept.mk (PB5.out.past hb6)
          have R6 := Kept.mk (R5.out.past hb6)
          have W6 := Kept.mk (W5.out.past hb6)
          have X6 := Kept.mk ((hb6.block _ HSZ.out).trans X5.out)
          have D6 := Kept.mk ((hb6.block _ HS5.out).trans D5.out)
          have HS3 : Kept (w3.heap.size < w6.heap.size) := ⟨Nat.lt_of_lt_of_le HS5.out hb6.size⟩
          have HSZ6 : Kept (w.heap.size < w6.heap.size) := ⟨Nat.lt_of_lt_of_le HSZ.out hb6.size⟩
          have B6 := Kept.mk (B5.out.trans (hb6.mono B5.out.size))
          clear hb6 PR5 PC5 PB5 R5 W5 X5 D5 PA5 B5 HSZ HS5
          have hmx : min (max at_ 0) (l.length : Int) = (nk : Int) := by have := Hnk.out; rw [List.length_take] at this; omega
          have HMM := Kept.mk hmx
          obtain ⟨hcut, -⟩ := cut_ent_to R6.out hc nk (by have := Hnk.out; rw [List.length_take] at this; omega)
          have HCUT := Kept.mk hcut
          clear hmx hcut
          go_upto_region 13 with fail
          go_cut [131] from 24 to 198 (fun r wx => r = .bool false ∧ Below w6.heap.size w6 wx)
          case first =>
            by_cases hpos : 0 < l.length
            · have HMO : Kept (decide (0 < (l.length : Int)) = true) := ⟨by simpa using hpos⟩
              have HM2 : Kept (decide (0 < l.length) = true) := ⟨by simpa using hpos⟩
              have hh : headOf l = l[0]'hpos := by unfold headOf; rw [List.head?_eq_getElem?, List.getElem?_eq_getElem hpos]; rfl
              rw [hh] at D6
              obtain ⟨b, o, rfl, hb0, hcl⟩ := R6.out.load (k := 0) hpos
              simp only [Nat.zero_mul, Nat.add_zero] at hcl
              obtain rfl : isp = true := Hisp.out.symm.trans HM2.out
              clear hh
              refine r13t w3 w6 A3 A4 c c3 c4 b o nk l at_ h40 hpos HMO HMM Hnk HCUT HSM R6 PC6 PR6 D6 HS3 hb0 hcl _ ?_
              intros
              go_wp2
              go_meet
              exact ⟨rfl, by assumption⟩
            · have HMO : Kept (decide (0 < (l.length : Int)) = false) := ⟨by simpa using hpos⟩
              have HM2 : Kept (decide (0 < l.length) = false) := ⟨by simpa using hpos⟩
              obtain rfl : isp = false := Hisp.out.symm.trans HM2.out
              refine r13f w6 A A4 c c4 nk l at_ h40 ⟨List.eq_nil_of_length_eq_zero (by omega)⟩ HMO HMM Hnk HCUT R6 PC6 _ ?_
              intros
              go_wp2
              go_meet
              exact ⟨rfl, by assumption⟩
          case rest =>
            obtain ⟨rfl, hb7⟩ := hcut
            obtain ⟨w7, hw7⟩ : ∃ w7 : World, w7 = wc := ⟨_, rfl⟩
            subst hw7
            have PB7 := Kept.mk (PB6.out.past hb7)
            have R7 := Kept.mk (R6.out.past hb7)
            have W7 := Kept.mk (W6.out.past hb7)
            have X7 := Kept.mk ((hb7.block _ HSZ6.out).trans X6.out)
            have HSZ7 : Kept (w.heap.size < w7.heap.size) := ⟨Nat.lt_of_lt_of_le HSZ6.out hb7.size⟩
            have B7 := Kept.mk (B6.out.trans (hb7.mono B6.out.size))
            clear hb7 PR6 PC6 PB6 R6 W6 X6 D6 B6 HSZ6 HS3
            by_cases hso : 0 ≤ at_ ∧ at_ < (l.length : Int)
            · obtain ⟨q1, rfl⟩ := Int.eq_ofNat_of_zero_le hso.1
              have hq1 : q1 < l.length := by omega
              have hpt : putted l (q1 : Int) e = l.set q1 e := by unfold putted; rw [if_pos hso, Int.toNat_natCast]
              have hpl : (putted l (q1 : Int) e).length = l.length := by rw [hpt]; simp
              have hde : decide (0 ≤ (q1 : Int) ∧ (q1 : Int) < (l.length : Int)) = true := by simpa using hso
              rw [hpt] at PB7
              obtain ⟨b5, o5, rfl, hb50, -⟩ := PB7.out.load (k := q1) (by simpa using hq1)
              obtain ⟨b, o, rfl, hb00, -⟩ := R7.out.load (k := q1) hq1
              have hsa : (0 : Int) ≤ (q1 : Int) := hso.1
              have hsb : (q1 : Int) < (l.length : Int) := hso.2
              obtain rfl : nb = l.length := Hnb.out.symm.trans hpl
              obtain rfl : sob = true := Hsob.out.symm.trans hde
              clear hpt hpl hde hso
              go_wp2_with fail
              obtain ⟨wq, hwq⟩ : ∃ wq : World, wq = w7 := ⟨_, rfl⟩
              go_loopw [154] (fun kv wr => ∃ k : Nat, k ≤ l.length ∧ kv = .int .i64 k ∧ Below w7.heap.size w7 wr) (fun kv _ => l.length - (intOf kv).toNat)
              case atStart => exact ⟨0, by omega, rfl, Below.refl _ _⟩
              case round =>
                obtain ⟨k, hk, rfl, hbk⟩ := hrel
                by_cases hkl : k < l.length
                · have HBK := Kept.mk hbk
                  have PBK := Kept.mk (PB7.out.past hbk)
                  have RK := Kept.mk (R7.out.past hbk)
                  have XK := Kept.mk ((hbk.block _ HSZ7.out).trans X7.out)
                  have HSZK : Kept (w.heap.size < wr.heap.size) := ⟨Nat.lt_of_lt_of_le HSZ7.out hbk.size⟩
                  clear hbk
                  go_upto_region 21 with fail
                  by_cases hkq : k = q1
                  · subst hkq
                    obtain ⟨b5', o5', he5, hb5, hcl5⟩ := PBK.out.load (k := k) (by simpa using hkl)
                    cases he5
                    simp only [List.getElem_set_self] at hcl5
                    refine r21t w wr c c5 b o b5 o5 k l e hkl XK HSZK hb5 hcl5 _ ?_
                    intros
                    rename_i w' hB
                    go_wp2_with fail
                    go_roundw
                    case rel => exact ⟨k + 1, by omega, by go_num, HBK.out.trans (hB.mono HBK.out.size)⟩
                    case measure => simp [intOf]; omega
                  · have HKN : Kept (((k : Int) != (q1 : Int)) = true) := ⟨by rw [bne_iff_ne]; omega⟩
                    have HKE : Kept (((k : Int) == (q1 : Int)) = false) := ⟨by rw [beq_eq_false_iff_ne]; omega⟩
                    obtain ⟨b5', o5', he5, hb5, hcl5⟩ := PBK.out.load (k := k) (by simpa using hkl)
                    cases he5
                    simp only [List.getElem_set_ne (Ne.symm hkq)] at hcl5
                    obtain ⟨b', o', he, hb0, hcl⟩ := RK.out.load (k := k) hkl
                    cases he
                    refine r21f wr c c5 b o b5 o5 k q1 l hkl HKN HKE hb5 hcl5 hb0 hcl _ ?_
                    intros
                    rename_i w' hB
                    go_wp2_with fail
                    go_roundw
                    case rel => exact ⟨k + 1, by omega, by go_num, HBK.out.trans (hB.mono HBK.out.size)⟩
                    case measure => simp [intOf]; omega
                · have R8 := Kept.mk (R7.out.past hbk)
                  have W8 := Kept.mk (W7.out.past hbk)
                  have B8 := Kept.mk (B7.out.trans (hbk.mono B7.out.size))
                  clear hbk R7 W7 B7
                  have hll : ((l.length : Int) != (l.length : Int)) = false := by simp
                  go_wp2_with fail
                  refine (same_ents (some ⟨b, o, none⟩) A1 c c1 l l _ R8.out W8.out (by omega)).mono ?_
                  rintro en w9 ⟨rfl, b9⟩
                  rw [decide_eq_true (rfl : l = l)]
                  have B9 := Kept.mk (B8.out.trans (b9.mono B8.out.size))
                  clear b9
                  obtain ⟨M1, hM1, hM10, hM11⟩ := mask7 mo
                  obtain ⟨M2, hM2, hM20, hM21⟩ := mask7 (q1 : Int)
                  have wm : IntKind.i64.wrap (M2 - 1) = M2 - 1 := IntWalk.i64_in _ (by omega)
                  go_wp2_with fail
                  go_roundw
                  case rel => exact ⟨M1, M2 - 1, q + 1, rfl, rfl, by go_num, by omega, by omega, by omega, HB1.out.trans (B9.out.mono hsz)⟩
                  case measure => simp [intOf]; omega
            · have hpt : putted l at_ e = [] := if_neg hso
              have hpl : (putted l at_ e).length = 0 := by rw [hpt]; rfl
              have hde : decide (0 ≤ at_ ∧ at_ < (l.length : Int)) = false := by simpa using hso
              obtain rfl : nb = 0 := Hnb.out.symm.trans hpl
              obtain rfl : sob = false := Hsob.out.symm.trans hde
              have R8 := R7
              have W8 := W7
              have B8 := B7
              have hor : at_ < 0 ∨ (0 ≤ at_ ∧ (l.length : Int) ≤ at_) := by omega
              clear hpt hpl hde hso
              rcases hor with h1 | ⟨h1, h2⟩
              · go_wp2_with fail
                refine (same_ents A A1 c c1 l l _ R8.out W8.out (by omega)).mono ?_
                rintro en w9 ⟨rfl, b9⟩
                rw [decide_eq_true (rfl : l = l)]
                have B9 := Kept.mk (B8.out.trans (b9.mono B8.out.size))
                clear b9
                obtain ⟨M1, hM1, hM10, hM11⟩ := mask7 mo
                obtain ⟨M2, hM2, hM20, hM21⟩ := mask7 at_
                have wm : IntKind.i64.wrap (M2 - 1) = M2 - 1 := IntWalk.i64_in _ (by omega)
                go_wp2_with fail
                go_roundw
                case rel => exact ⟨M1, M2 - 1, q + 1, rfl, rfl, by go_num, by omega, by omega, by omega, HB1.out.trans (B9.out.mono hsz)⟩
                case measure => simp [intOf]; omega
              · go_wp2_with fail
                refine (same_ents A A1 c c1 l l _ R8.out W8.out (by omega)).mono ?_
                rintro en w9 ⟨rfl, b9⟩
                rw [decide_eq_true (rfl : l = l)]
                have B9 := Kept.mk (B8.out.trans (b9.mono B8.out.size))
                clear b9
                obtain ⟨M1, hM1, hM10, hM11⟩ := mask7 mo
                obtain ⟨M2, hM2, hM20, hM21⟩ := mask7 at_
                have wm : IntKind.i64.wrap (M2 - 1) = M2 - 1 := IntWalk.i64_in _ (by omega)
                go_wp2_with fail
                go_roundw
                case rel => exact ⟨M1, M2 - 1, q + 1, rfl, rfl, by go_num, by omega, by omega, by omega, HB1.out.trans (B9.out.mono hsz)⟩
                case measure => simp [intOf]; omega
      · go_wp2_with fail
        refine (awake9 _).mono ?_
        rintro en w4 ⟨rfl, b4⟩
        have B4 := Kept.mk (HB.out.trans (b4.mono HB.out.size))
        clear b4
        go_wp2_with fail
        go_ret
        exact ⟨rfl, B4.out⟩
end Go.Proofs.Ytdfcbfcnanpolaa
