/- The law RetbTwo: a return buffer has the last two at most. -/
import Derived.Test.YtdfcbfcnanpolaaAwa12
import Derived.Test.YtdfcbfcnanpolaaMask
import Derived.Test.YtdfcbfcnanpolaaOpen
namespace Go.Proofs.Ytdfcbfcnanpolaa
open Go.RowKit

theorem two_len (l : List Int) (i : Nat) (hi : i ≤ l.length) : (lastTwo (l.take i)).length = min i 2 := by unfold lastTwo; simp; omega
theorem two_small (m : List Int) (h : m.length ≤ 2) : lastTwo m = m := by unfold lastTwo; rw [show m.length - 2 = 0 by omega, List.drop_zero]
theorem two_push (m : List Int) (x : Int) : lastTwo (lastTwo m ++ [x]) = lastTwo (m ++ [x]) := by
  by_cases h : m.length ≤ 2
  · rw [two_small m h]
  · unfold lastTwo
    have h1 : (m.drop (m.length - 2)).length = 2 := by simp; omega
    rw [List.length_append, List.length_append, h1, List.length_singleton, List.drop_append_of_le_length (by omega), List.drop_append_of_le_length (by omega), List.drop_drop]
    congr 2
    omega
theorem two_take (l : List Int) (i : Nat) (hi : i < l.length) : lastTwo (lastTwo (l.take i) ++ [l[i]]) = lastTwo (l.take (i + 1)) := by
  rw [two_push, List.take_succ_eq_append_getElem hi]
theorem two_one (l : List Int) (hi : 0 < l.length) : lastTwo (l.take (0 + 1)) = [l[0]] := by
  rw [two_small _ (by simp; omega), List.take_succ_eq_append_getElem hi]
  simp
theorem two_more (l : List Int) (i : Nat) (h1 : 1 ≤ i) (hi : i < l.length) : lastTwo (l.take (i + 1)) = [l[i - 1]'(by omega), l[i]] := by
  obtain ⟨j, rfl⟩ : ∃ j, i = j + 1 := ⟨i - 1, by omega⟩
  rw [List.take_succ_eq_append_getElem hi, List.take_succ_eq_append_getElem (show j < l.length by omega)]
  unfold lastTwo
  have : (l.take j ++ [l[j]] ++ [l[j + 1]]).length - 2 = (l.take j).length := by simp; omega
  rw [this, List.append_assoc, List.drop_left]
  rfl

theorem OwnI.shape_at {w : World} {B n : Nat} {v : Value} {l : List Int} (h : OwnI w B v l) (hl : l.length = n) : ∃ A c, v = .slice A n c ∧ n ≤ c ∧ RdI w A l := by
  subst hl
  exact h.shape
theorem same_ints_at (A A' : Option Addr) (n n' c c' : Nat) (l m : List Int) (w : World) (hl : l.length = n) (hl' : m.length = n') (hr : RdI w A l) (hr' : RdI w A' m) (hc : n ≤ 1000000) :
    Calls Try.prog 22 #[.slice A n c, .slice A' n' c'] w fun en w' => en = .returned (.bool (decide (l = m))) ∧ Below w.heap.size w w' := by
  subst hl hl'
  exact same_ints A A' c c' l m w hr hr' hc
theorem rpush_at (A : Option Addr) (n c : Nat) (l : List Int) (pc : Int) (w : World) (hl : l.length = n) (hr : RdI w A l) (hn : n < 1000000) :
    Calls Try.prog 20 #[.slice A n c, .int .i64 pc] w (GivesI w (lastTwo (l ++ [pc]))) := by
  subst hl
  exact rpush A c l pc w hr hn

set_option maxRecDepth 100000 in
set_option maxHeartbeats 1000000 in
theorem two_walk (A : Option Addr) (c : Nat) (l : List Int) (takes : Int) (w : World) (_hc : l.length ≤ c) (_hm : c ≤ maxLen) (hr : RdI w A l) (_hok : ∀ x ∈ l, -9223372036854775808 ≤ x ∧ x ≤ 9223372036854775807) (_hn : -9223372036854775808 ≤ takes ∧ takes ≤ 9223372036854775807) :
    Calls Try.prog 7 #[.slice A l.length c, .int .i64 takes] w (SaysTrue w) := by
  unfold maxLen at _hm
  have HR := Kept.mk hr
  clear hr _hok
  obtain ⟨T, hT, hT0, hT1⟩ := mask3 takes
  obtain ⟨K, rfl⟩ := Int.eq_ofNat_of_zero_le hT0
  have HT := Kept.mk hT
  clear hT
  go_enter Try.func7, Try.ntmps7
  go_wp2_with fail
  go_loopw [5, 6] (fun v i wr => ∃ k : Nat, k ≤ l.length ∧ k ≤ 20 ∧ i = .int .i64 k ∧ OwnI wr w.heap.size v (lastTwo (l.take k)) ∧ Below w.heap.size w wr) (fun _ i _ => 20 - (intOf i).toNat)
  case atStart => exact ⟨0, by omega, by omega, rfl, OwnI.nil, Below.refl _ _⟩
  case round =>
    obtain ⟨k, hk, hk20, rfl, ho, hb⟩ := hrel
    have hlen := two_len l k hk
    obtain ⟨A1, c1, rfl, hc1, r1⟩ := ho.shape
    have HO := Kept.mk ho
    have HB := Kept.mk hb
    have R1 := Kept.mk r1
    clear ho hb r1
    by_cases hgo : k < l.length ∧ k < 20
    · obtain ⟨hlt, h20⟩ := hgo
      obtain ⟨b, o, rfl, hbs, q0⟩ := (HR.out.past HB.out).at_ hlt
      have HLEN := Kept.mk hlen
      clear hlen
      go_wp2_with fail
      refine (rpush A1 c1 (lastTwo (l.take k)) l[k] _ R1.out (by rw [HLEN.out]; omega)).mono ?_
      rintro en w2 ⟨v2, rfl, h2, b2⟩
      rw [two_take l k hlt] at h2
      have h2' := Kept.mk (h2.lower HB.out.size)
      have B2 := Kept.mk (HB.out.trans (b2.mono HB.out.size))
      have hq0 : w2.cell? ⟨b, o + k, Option.none⟩ = some (.int .i64 l[k]) := by rw [b2.cell (p := ⟨b, o + k, Option.none⟩) hbs]; exact q0
      by_cases hk0 : k = 0
      · subst hk0
        rw [two_one l hlt] at h2
        obtain ⟨A2, c2, rfl, hc2, r2⟩ := h2.shape
        obtain ⟨b', o', rfl, hbs', p0⟩ := r2.at_ (i := 0) (by simp)
        simp only [List.getElem_cons_zero, Nat.add_zero] at p0 hq0
        clear h2 b2 q0 r2
        have hmin : min (1 : Int) 2 = 1 := by decide
        go_wp2_with fail
        go_quiet (fail)
        go_wp2_with fail
        go_roundw
        case rel => exact ⟨0 + 1, by omega, by omega, by go_num, h2'.out, below_drewN B2.out _⟩
        case measure => simp [intOf]
      · have hk1 : 1 ≤ k := by omega
        have hkn : k - 1 < l.length := by omega
        obtain ⟨b3, o3, e3, hbs3, q1⟩ := (HR.out.past HB.out).at_ hkn
        injection e3 with e3
        injection e3 with e31 e32
        subst e31 e32
        have hq1 : w2.cell? ⟨b, o + (k - 1), Option.none⟩ = some (.int .i64 l[k - 1]) := by rw [b2.cell (p := ⟨b, o + (k - 1), Option.none⟩) hbs]; exact q1
        rw [two_more l k hk1 hlt] at h2
        obtain ⟨A2, c2, rfl, hc2, r2⟩ := h2.shape
        obtain ⟨b', o', rfl, hbs', p0⟩ := r2.at_ (i := 0) (by simp)
        obtain ⟨b4, o4, e4, hbs4, p1⟩ := r2.at_ (i := 1) (by simp)
        injection e4 with e4
        injection e4 with e41 e42
        subst e41 e42
        simp only [List.getElem_cons_zero, List.getElem_cons_succ, Nat.add_zero] at p0 p1
        clear h2 b2 q0 q1 r2
        have hmin : min ((k : Int) + 1) 2 = 2 := by omega
        have wr1 : IntKind.i64.wrap ((k : Int) - 1) = (k : Int) - 1 := IntWalk.i64_in _ (by omega)
        have ix0 : (0 : Int) ≤ (k : Int) - 1 := by omega
        have ix1 : (k : Int) - 1 < (l.length : Int) := by omega
        have ix2 : ((k : Int) - 1).toNat = k - 1 := by omega
        go_wp2_with fail
        go_quiet (fail)
        go_wp2_with fail
        go_roundw
        case rel => exact ⟨k + 1, by omega, by omega, by go_num, h2'.out, below_drewN B2.out _⟩
        case measure => simp [intOf]; omega
    · have hle : (lastTwo (l.take k)).length ≤ 2 := by omega
      clear hlen
      generalize lastTwo (l.take k) = m0 at *
      have hsp : (k < l.length ∧ (20 : Int) ≤ k) ∨ l.length ≤ k := by omega
      have HC := Kept.mk hc1
      clear hgo hk20 hc1
      rcases hsp with ⟨hlt, h20⟩ | hlt
      all_goals go_wp2_with fail
      all_goals clear hlt hk
      all_goals try clear h20
      all_goals
        go_loopw [5, 9] (fun v i wq => ∃ (q : Nat) (m : List Int), q ≤ K ∧ i = .int .i64 q ∧ m.length = m0.length - q ∧ OwnI wq w.heap.size v m ∧ Below w.heap.size w wq) (fun _ i _ => K - (intOf i).toNat)
        case atStart => exact ⟨0, m0, by omega, rfl, rfl, HO.out, HB.out⟩
        case round =>
          obtain ⟨q, m, hq, rfl, hm, ho, hb⟩ := hrel
          obtain ⟨A4, c4, rfl, hc4, r4⟩ := ho.shape
          have hT := HT.out
          have HO4 := Kept.mk ho
          have HB4 := Kept.mk hb
          have R4 := Kept.mk r4
          clear ho hb r4
          by_cases hqK : q < K
          · cases hml : m.length with
            | zero =>
              rw [hml] at hc4
              have hnq : (m0.length : Int) ≤ q := by omega
              have HM := Kept.mk hm
              have HML := Kept.mk hml
              clear hm hml
              go_wp2_with fail
              refine (rpop_none A4 c4 _).mono ?_
              rintro en w6 ⟨rfl, b6⟩
              have O6 := Kept.mk (HO4.out.past b6)
              have B6 := Kept.mk (HB4.out.trans (b6.mono HB4.out.size))
              clear b6
              go_wp2_with fail
              exact ⟨⟨q + 1, m, by omega, by go_num, by have := HM.out; have := HML.out; omega, by rw [← HML.out]; exact O6.out, B6.out⟩, by simp [intOf]; omega⟩
            | succ j =>
              rw [hml] at hc4
              have hqn : (q : Int) < (m0.length : Int) := by omega
              have hj2 : j + 1 ≤ 2 := by omega
              have hjm : j < m.length := by omega
              have HM := Kept.mk hm
              have HML := Kept.mk hml
              clear hm hml
              go_wp2_with fail
              refine (rpop_some A4 c4 j m _ HML.out hc4 R4.out (by omega)).mono ?_
              rintro en w6 ⟨v6, rfl, h6, b6⟩
              obtain ⟨A6, c6, rfl, hc6, r6⟩ := h6.shape
              have htl : (m.take j).length = j := by rw [List.length_take]; omega
              rw [htl] at hc6 ⊢
              have R46 := Kept.mk (R4.out.past b6)
              obtain ⟨b, o, rfl, hbs, q0⟩ := R46.out.at_ (i := j) (by omega)
              have O6 := Kept.mk (h6.lower HB4.out.size)
              have R6 := Kept.mk r6
              have B6 := Kept.mk (HB4.out.trans (b6.mono HB4.out.size))
              have HTL := Kept.mk htl
              clear h6 b6 r6 htl
              have wr1 : IntKind.i64.wrap ((j : Int) + 1 - 1) = (j : Int) := by rw [show (j : Int) + 1 - 1 = j by omega]; exact IntWalk.i64_in _ (by omega)
              go_wp2_with fail
              refine (rpush_at A6 j c6 (m.take j) m[j] _ HTL.out R6.out (by omega)).mono ?_
              rintro en w7 ⟨v7, rfl, h7, b7⟩
              have e7 : lastTwo (m.take j ++ [m[j]]) = m := by
                rw [← List.take_succ_eq_append_getElem hjm, List.take_of_length_le (by have := HML.out; omega), two_small m (by have := HML.out; omega)]
              rw [e7] at h7
              obtain ⟨A7, c7, rfl, hc7, r7⟩ := h7.shape_at HML.out
              have R7 := Kept.mk r7
              have R47 := Kept.mk (R46.out.past b7)
              have O7 := Kept.mk (O6.out.past b7)
              have B7 := Kept.mk (B6.out.trans (b7.mono B6.out.size))
              have E7 := Kept.mk e7
              clear h7 b7 r7 e7 hc7
              go_wp2_with fail
              refine (same_ints_at A7 (some ⟨b, o, Option.none⟩) (j + 1) (j + 1) c7 c4 m m _ HML.out HML.out R7.out R47.out (by omega)).mono ?_
              rintro en w8 ⟨rfl, b8⟩
              have O8 := Kept.mk (O7.out.past b8)
              have B8 := Kept.mk (B7.out.trans (b8.mono B7.out.size))
              clear b8
              have hdt : decide (m = m) = true := by simp
              go_wp2_with fail
              exact ⟨⟨q + 1, m.take j, by omega, by go_num, by rw [HTL.out]; have := HM.out; have := HML.out; omega, (by have h := O8.out; rw [HTL.out] at h; exact h), B8.out⟩, by simp [intOf]; omega⟩
          · have hqK' : q = K := by omega
            subst hqK'
            go_wp2_with fail
            refine (awake12 _).mono ?_
            rintro en w8 ⟨rfl, b8⟩
            have HB8 := Kept.mk (HB4.out.trans (b8.mono HB4.out.size))
            clear b8
            go_wp2_with fail
            go_ret
            exact ⟨rfl, HB8.out⟩
end Go.Proofs.Ytdfcbfcnanpolaa
