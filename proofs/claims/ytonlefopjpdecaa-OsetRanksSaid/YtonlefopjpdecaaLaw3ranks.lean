/- The law OsetRanks: ranks are those of the keys in their order. -/
import Derived.Test.YtonlefopjpdecaaRanks
import Derived.Test.YtonlefopjpdecaaOpenR
namespace Go.Proofs.Ytonlefopjpdecaa
open Go.RowKit Go.Maps

set_option maxRecDepth 100000 in
set_option maxHeartbeats 8000000 in
theorem ranks_walk (A : Option Addr) (c : Nat) (l : List (List UInt8)) (w : World) (_hc : l.length ≤ c) (_hm : c ≤ maxLen) (hr : RdR w A l) :
    Calls Try.prog 3 #[.slice A l.length c] w (SaysTrue w) := by
  have hmm := @run_makeMap Try.prog
  have HR := Kept.mk hr
  unfold maxLen at _hm
  clear hr
  go_enter Try.func3, Try.ntmps3
  go_wp2_with fail
  refine (new_set 100 w).mono ?_
  rintro en w1 ⟨rfl, h1, b1⟩
  have H1 : Kept (SetAt w1 w.heap.size (w.heap.size + 1) w.heap.size (.slice none 0 0) 100 []) := ⟨h1⟩
  have B1 := Kept.mk b1
  have SZ1 : Kept (w.heap.size + 2 ≤ w1.heap.size) := ⟨by have := h1.lt; omega⟩
  clear h1 b1
  go_wp2_with fail
  go_loopw [4] (fun iv wr => ∃ (i : Nat) (va : Value) (L : List (List UInt8)), i ≤ l.length ∧ i ≤ 40 ∧ L.length ≤ i ∧ iv = .int .i64 i ∧ Kept (∀ s ∈ L, s.length ≤ 100) ∧ SetAt wr w.heap.size (w.heap.size + 1) w.heap.size va 100 L ∧ Below w.heap.size w wr) (fun iv _ => l.length - (intOf iv).toNat)
  case atStart => exact ⟨0, _, [], by omega, by omega, by simp, rfl, ⟨by simp⟩, H1.out, B1.out⟩
  case round =>
    obtain ⟨i, va, L, hil, hi40, hLi, rfl, hsh, ha, hbel⟩ := hrel
    have HA := Kept.mk ha
    have BB := Kept.mk hbel
    clear ha hbel
    by_cases hlt : i < l.length ∧ i < 40
    · obtain ⟨hlt1, hlt2⟩ := hlt
      have hlt1' : (i : Int) < (l.length : Int) := by omega
      have hlt2' : (i : Int) < 40 := by omega
      obtain ⟨b, o, A1, c1, rfl, hbl, q0, hc1, hm1, hr1⟩ := (HR.out.past BB.out) i hlt1
      have RK := Kept.mk hr1
      by_cases h100 : 100 < l[i].length
      · have h100' : (100 : Int) < (l[i].length : Int) := by omega
        go_wp2_with fail
        refine (awake3 _).mono ?_
        rintro en w4 ⟨rfl, b4⟩
        have B4 := Kept.mk (BB.out.trans (b4.mono BB.out.size))
        clear b4
        go_wp2_with fail
        go_ret
        exact ⟨rfl, B4.out⟩
      · have h100' : (l[i].length : Int) ≤ 100 := by omega
        have hsh' : Kept (∀ s ∈ addKey L l[i], s.length ≤ 100) := ⟨fun s hs => by
          rcases mem_addKey.1 hs with h | h
          · exact hsh.out s h
          · rw [h]; omega⟩
        have q1 : (wr.alloc (.cells #[] 5)).cell? ⟨b, o + i, none⟩ = some (.slice A1 l[i].length c1) := ((below_alloc_self wr _).cell (p := ⟨b, o + i, none⟩) hbl).trans q0
        go_wp2_with (at_builtin; go_must (refine append_bytes _ rfl (.tmp 36) (.tmp 40) rfl wr.heap.size rfl (OwnB.made (Nat.le_refl _)) rfl (RK.out.past (below_alloc_self _ _)) (by simp; omega) (by simp) ?_))
        intro v2 w2 h2 _ b2
        obtain ⟨A2, c2, rfl, hc2, hr2⟩ := h2.shape
        have b2' := (below_alloc_self wr (.cells #[] 5)).trans (b2.mono (by simp))
        have O2 := Kept.mk h2
        have R2 := Kept.mk hr2
        have HA2 := Kept.mk (HA.out.past b2')
        have BB2 := Kept.mk (BB.out.trans (b2'.mono BB.out.size))
        have SZ2 : Kept (wr.heap.size ≤ w2.heap.size) := ⟨b2'.size⟩
        clear h2 b2 b2' hr2 q0 q1 hr1 h100 h100'
        go_wp2_with fail
        refine (add_any HA2.out A2 _ c2 l[i] rfl R2.out (by unfold maxLen; omega) (by omega)).mono ?_
        rintro en w3 ⟨p, fr, va', rfl, ha3, t3, -, -, -⟩
        have HA3 := Kept.mk ha3
        have O3 := Kept.mk (OwnB.touch HA2.out t3 O2.out)
        have BB3 := Kept.mk (BB2.out.trans (Touch.below HA2.out t3 BB2.out.size))
        have hL' : (addKey L l[i]).length ≤ i + 1 := by have := length_addKey L l[i]; omega
        clear ha3 t3 HA2 O2 R2
        rcases Nat.eq_zero_or_pos l[i].length with h0 | h0
        · have hle : ¬ (0 : Int) < (l[i].length : Int) := by omega
          clear h0
          go_wp2_with fail
          go_roundw
          case rel => exact ⟨i + 1, va', _, by omega, by omega, hL', by go_num, hsh', HA3.out, BB3.out⟩
          case measure => simp [intOf]; omega
        · have hle : (0 : Int) < (l[i].length : Int) := by omega
          obtain ⟨g, rfl, hg0, hg1, q3, hfz⟩ := O3.out.elem h0
          obtain ⟨cur, hcur⟩ := O3.out.block
          go_wp2_with fail
          go_roundw
          case rel => exact ⟨i + 1, va', _, by omega, by omega, hL', by go_num, hsh', HA3.out.setByte hcur 0 _, BB3.out.setCell (p := ⟨g, 0, Option.none⟩) (Nat.le_trans BB.out.size hg0) _⟩
          case measure => simp [intOf]; omega
    · have hor : (l.length : Int) ≤ (i : Int) ∨ ((i : Int) < (l.length : Int) ∧ (40 : Int) ≤ (i : Int)) := by omega
      clear hlt
      obtain ⟨wq, hwq⟩ : ∃ wq : World, wq = wr := ⟨_, rfl⟩
      subst hwq
      have HMI := Kept.mk (MapI.made wq)
      have HAQ := Kept.mk (HA.out.past (below_alloc_self wq (.map #[] 0)))
      have BBQ := Kept.mk (BB.out.trans ((below_alloc_self wq (.map #[] 0)).mono BB.out.size))
      have SZQ : Kept (w.heap.size + 2 ≤ wq.heap.size) := ⟨by have := HA.out.lt; omega⟩
      clear HA BB H1 B1
      rcases hor with hx | ⟨hx, hy⟩
      all_goals
        go_wp2_with fail
        go_loopw [7] (fun iv wr => ∃ k : Nat, k ≤ L.length ∧ iv = .int .i64 k ∧ SetAt wr w.heap.size (w.heap.size + 1) w.heap.size va 100 L ∧ MapI wr wq.heap.size ((L.take k).map (rankOf L)) ∧ Below w.heap.size w wr) (fun iv _ => L.length - (intOf iv).toNat)
        case atStart => exact ⟨0, by omega, rfl, HAQ.out, by simpa using HMI.out, BBQ.out⟩
        case round =>
          obtain ⟨k, hk, rfl, ha, hmi, hbel⟩ := hrel
          have HA := Kept.mk ha
          have HM := Kept.mk hmi
          have BB := Kept.mk hbel
          clear ha hmi hbel HAQ HMI BBQ
          go_wp2_with fail
          refine (len_set HA.out).mono ?_
          rintro en w2 ⟨rfl, hw⟩
          have hw2 := hw.symm
          subst hw2
          clear hw
          by_cases hlt : k < L.length
          · go_wp2_with fail
            refine (at_key HA.out k hlt).mono ?_
            rintro en w3 ⟨c5, rfl, hcp, b3⟩
            have HA3 := Kept.mk (HA.out.past b3)
            have HM3 := Kept.mk (HM.out.past b3)
            have BB3 := Kept.mk (BB.out.trans (b3.mono BB.out.size))
            have HC3 := Kept.mk hcp
            have HG3 := Kept.mk HM.out.lt
            obtain ⟨g5, hg5⟩ : ∃ g5, wr.heap.size = g5 := ⟨_, rfl⟩
            rw [hg5] at HC3 HG3 ⊢
            obtain ⟨s5, hs5⟩ : ∃ s5, s5 = L[k] := ⟨_, rfl⟩
            rw [← hs5] at HC3 ⊢
            have hs5L : s5 ∈ L := by rw [hs5]; exact List.getElem_mem hlt
            have HS5 := Kept.mk hs5
            have HSM : Kept (s5.length ≤ 100) := ⟨hsh.out s5 hs5L⟩
            have HGB : Kept (w.heap.size ≤ g5) := ⟨by rw [← hg5]; exact BB.out.size⟩
            clear hcp b3 HA HM BB hg5 hs5
            go_wp2_with fail
            refine (has_key HA3.out (some ⟨g5, 0, Option.none⟩) _ c5 s5 rfl HC3.out.reads (by have := HSM.out; unfold maxLen; omega)).mono ?_
            rintro en w4 ⟨rfl, kd, hw⟩
            rw [decide_eq_true hs5L]
            have ha4 : SetAt w4 w.heap.size (w.heap.size + 1) w.heap.size va 100 L := by rw [hw]; exact HA3.out.drewN kd
            have hm4 : MapI w4 wq.heap.size ((L.take k).map (rankOf L)) := by rw [hw]; exact HM3.out.same rfl
            have hb4 : Below w.heap.size w w4 := by rw [hw]; exact below_drewN BB3.out kd
            have hc4 : Copy w4 g5 g5 c5 s5 := by rw [hw]; exact ⟨HC3.out.lo, HC3.out.hg, HC3.out.cap⟩
            have HA4 := Kept.mk ha4
            have HM4 := Kept.mk hm4
            have BB4 := Kept.mk hb4
            have HC4 := Kept.mk hc4
            clear ha4 hm4 hb4 hc4 hw HA3 HM3 BB3 HC3
            go_wp2_with fail
            go_loopw [10, 11] (fun nv jv wr => ∃ j : Nat, j ≤ L.length ∧ jv = .int .i64 j ∧ nv = .int .i64 (rankOf (L.take j) s5 : Nat) ∧ SetAt wr w.heap.size (w.heap.size + 1) w.heap.size va 100 L ∧ MapI wr wq.heap.size ((L.take k).map (rankOf L)) ∧ Copy wr g5 g5 c5 s5 ∧ Below w.heap.size w wr) (fun _ jv _ => L.length - (intOf jv).toNat)
            case atStart => exact ⟨0, by omega, rfl, rfl, HA4.out, HM4.out, HC4.out, BB4.out⟩
            case round =>
              obtain ⟨j, hj, rfl, rfl, ha, hmi, hcp, hbel⟩ := hrel
              have HA := Kept.mk ha
              have HM := Kept.mk hmi
              have HC := Kept.mk hcp
              have BB := Kept.mk hbel
              clear ha hmi hcp hbel HA4 HM4 HC4 BB4
              go_wp2_with fail
              refine (len_set HA.out).mono ?_
              rintro en w2 ⟨rfl, hw⟩
              have hw2 := hw.symm
              subst hw2
              clear hw
              by_cases hlt2 : j < L.length
              · have HST := Kept.mk (rank_step (s := s5) hlt2)
                have hrk := rank_le (L.take j) s5
                rw [List.length_take] at hrk
                have hL100 : L.length ≤ 100 := HA.out.le
                have w1' : IntKind.i64.wrap ((rankOf (L.take j) s5 : Nat) + 1 : Int) = (rankOf (L.take j) s5 : Nat) + 1 := IntWalk.i64_in _ (by omega)
                go_wp2_with fail
                refine (at_key HA.out j hlt2).mono ?_
                rintro en w5 ⟨c6, rfl, hcq, b5⟩
                have HA5 := Kept.mk (HA.out.past b5)
                have HM5 := Kept.mk (HM.out.past b5)
                have HC5 := Kept.mk (HC.out.past b5)
                have HQ5 := Kept.mk hcq
                have BB5 := Kept.mk (BB.out.trans (b5.mono BB.out.size))
                clear hcq b5 HA HM HC BB
                go_wp2_with fail
                refine (ref_less (some ⟨_, 0, Option.none⟩) (some ⟨g5, 0, Option.none⟩) _ _ c6 c5 L[j] s5 _ rfl rfl HQ5.out.reads HC5.out.reads).mono ?_
                rintro en w6 ⟨rfl, hw⟩
                have hw6 := hw.symm
                subst hw6
                clear hw
                cases hx2 : lessB L[j] s5 with
                | true =>
                  rw [hx2] at HST
                  clear hx2
                  go_wp2_with fail
                  go_roundw
                  case rel => exact ⟨j + 1, by omega, by go_num, by rw [HST.out]; simp, HA5.out, HM5.out, HC5.out, BB5.out⟩
                  case measure => simp [intOf]; omega
                | false =>
                  rw [hx2] at HST
                  clear hx2
                  go_wp2_with fail
                  go_roundw
                  case rel => exact ⟨j + 1, by omega, by go_num, by rw [HST.out]; simp, HA5.out, HM5.out, HC5.out, BB5.out⟩
                  case measure => simp [intOf]; omega
              · have hke : L.take j = L := List.take_of_length_le (by omega)
                rw [hke]
                clear hke
                have hL100 : L.length ≤ 100 := HA.out.le
                obtain ⟨N, hN⟩ : ∃ N, rankOf L s5 = N := ⟨_, rfl⟩
                have hN1 : N ≤ 100 := by rw [← hN]; exact Nat.le_trans (rank_le L s5) hL100
                have hnot : N ∉ (L.take k).map (rankOf L) := by
                  intro hh
                  obtain ⟨x, hx, he⟩ := List.mem_map.1 hh
                  have := rank_inj (List.mem_of_mem_take hx) hs5L (he.trans hN.symm)
                  subst this
                  obtain ⟨q, hq, he'⟩ := List.mem_take_iff_getElem.1 hx
                  have hq2 : q < k := by omega
                  have hqk : L[q]'(by omega) = L[k] := by rw [he', HS5.out]
                  exact List.pairwise_iff_getElem.1 HA.out.nd q k (by omega) hlt hq2 hqk
                have HNR : Kept ((L.take (k + 1)).map (rankOf L) = (L.take k).map (rankOf L) ++ [N]) := ⟨by rw [List.take_succ_eq_append_getElem hlt, List.map_append, List.map_singleton, ← HS5.out, hN]⟩
                have HN := Kept.mk hN
                rw [hN]
                clear hN
                go_wp2_with fail
                refine (rank_set HA.out (some ⟨g5, 0, Option.none⟩) _ c5 s5 rfl HC.out.reads).mono ?_
                rintro en w5 ⟨rfl, b5⟩
                rw [HN.out]
                have HA5 := Kept.mk (HA.out.past b5)
                have hm5 := HM.out.past b5
                have HC5 := Kept.mk (HC.out.past b5)
                have BB5 := Kept.mk (BB.out.trans (b5.mono BB.out.size))
                have hlk := hm5.look (k := N) (by omega)
                rw [if_neg hnot] at hlk
                obtain ⟨w6, hput, hm6, hg6⟩ := hm5.put (k := N) (by omega) (by rw [List.length_map, List.length_take]; omega)
                obtain ⟨es, clock, hmb⟩ := hm5.block
                obtain ⟨hSG, hvG⟩ := HA5.out.map_block hmb
                have ha6 := HA5.out.grown hg6 hSG (by have := SZQ.out; omega) hvG
                have hgne : g5 ≠ wq.heap.size := by have := HG3.out; omega
                have hc6 : Copy w6 g5 g5 c5 s5 := ⟨HC5.out.lo, (hg6.block g5 (Array.getElem?_eq_some_iff.1 HC5.out.hg).1 (by simpa using hgne)).trans HC5.out.hg, HC5.out.cap⟩
                have HA6 := Kept.mk ha6
                have HM6 : Kept (MapI w6 wq.heap.size ((L.take (k + 1)).map (rankOf L))) := ⟨by rw [HNR.out]; exact hm6⟩
                have HC6 := Kept.mk hc6
                have BB6 : Kept (Below w.heap.size w w6) := ⟨BB5.out.trans ((Below.refl _ _).grown hg6 BB5.out.size (fun k hk => by injection hk with hk; have := SZQ.out; omega))⟩
                have hnn : ((N : Int) != (N : Int)) = false := by simp
                clear hm5 hm6 hg6 ha6 hc6 hmb b5 HA HM HC BB HA5 BB5 HC5 hnot
                rcases Nat.eq_zero_or_pos s5.length with h0 | h0
                · have hle : ¬ (0 : Int) < (s5.length : Int) := by omega
                  clear h0
                  go_wp2_with fail
                  go_roundw
                  case rel => exact ⟨k + 1, by omega, by go_num, HA6.out, HM6.out, BB6.out⟩
                  case measure => simp [intOf]; omega
                · have hle : (0 : Int) < (s5.length : Int) := by omega
                  obtain ⟨b', o', e', _, z0⟩ := HC6.out.reads.at_ h0
                  cases e'
                  have hfz : w6.frozen? ⟨g5, 0, none⟩ = false := by
                    unfold World.frozen?
                    rw [HC6.out.hg]
                    have : 0 < (bytesRow ⟨s5.toArray⟩ c5).size := by simp [bytesRow]; omega
                    show (decide ((bytesRow ⟨s5.toArray⟩ c5).size ≤ 0) && decide (0 < (bytesRow ⟨s5.toArray⟩ c5).size + 1)) = false
                    rw [decide_eq_false (by omega)]
                    rfl
                  obtain ⟨y, hy⟩ : ∃ y : UInt8, y = s5[0] + 1 := ⟨_, rfl⟩
                  have hyn : IntKind.u8.wrap ((s5[0].toNat : Int) + 1) = (y.toNat : Int) := by rw [IntKind.wrap_u8, hy, UInt8.toNat_add]; simp
                  have hyne : y ≠ s5[0] := by
                    intro e
                    have h1 := congrArg UInt8.toNat (hy.symm.trans e)
                    rw [UInt8.toNat_add] at h1
                    have := s5[0].toNat_lt
                    simp at h1
                    omega
                  have HSTR : Kept ((s5 == s5.set 0 y) = false) := ⟨by
                    rw [beq_eq_false_iff_ne]
                    intro e
                    have : s5[0] = (s5.set 0 y)[0]'(by simpa using h0) := by congr 1
                    rw [List.getElem_set_self] at this
                    exact hyne this.symm⟩
                  have HA7 := Kept.mk (HA6.out.setByte HC6.out.hg 0 (.int .u8 y.toNat))
                  have HM7 : Kept (MapI (w6.setCell ⟨g5, 0, none⟩ (.int .u8 y.toNat)) wq.heap.size ((L.take (k + 1)).map (rankOf L))) := ⟨HM6.out.same (heap_setCell_other w6 _ _ _ (Ne.symm hgne))⟩
                  have RC7 := Kept.mk (HC6.out.store y h0)
                  have BB7 := Kept.mk (BB6.out.setCell (p := ⟨g5, 0, Option.none⟩) HGB.out (.int .u8 y.toNat))
                  clear hy hyne
                  go_wp2_with fail
                  refine (at_key_is HA7.out k hlt s5 HS5.out.symm).mono ?_
                  rintro en w8 ⟨c8, rfl, hcq, b8⟩
                  have HA8 := Kept.mk (HA7.out.past b8)
                  have HM8 := Kept.mk (HM7.out.past b8)
                  have BB8 := Kept.mk (BB7.out.trans (b8.mono BB7.out.size))
                  have hs1 := run_string (c := c8) hcq.reads rfl
                  have hs2 := run_string (n := s5.length) (c := c5) (RC7.out.past b8) (by simp)
                  have hstr := HSTR.out
                  have hsz : (w6.setCell ⟨g5, 0, none⟩ (.int .u8 y.toNat)).heap.size = w6.heap.size := by simp [World.setCell]
                  rw [hsz] at hs1
                  clear hcq b8 hsz HA7 HM7 RC7 BB7
                  go_wp2_with fail
                  go_roundw
                  case rel => exact ⟨k + 1, by omega, by go_num, HA8.out, HM8.out, BB8.out⟩
                  case measure => simp [intOf]; omega
          · go_wp2_with fail
            refine (awake3 _).mono ?_
            rintro en w4 ⟨rfl, b4⟩
            have B4 := Kept.mk (BB.out.trans (b4.mono BB.out.size))
            clear b4
            go_wp2_with fail
            go_ret
            exact ⟨rfl, B4.out⟩
end Go.Proofs.Ytonlefopjpdecaa
