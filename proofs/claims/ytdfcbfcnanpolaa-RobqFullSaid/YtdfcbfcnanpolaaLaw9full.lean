/- The law RobqFull: a row takes as many as it may have, and no more. -/
import Derived.Test.YtdfcbfcnanpolaaAwa9
import Derived.Test.YtdfcbfcnanpolaaMask
namespace Go.Proofs.Ytdfcbfcnanpolaa
open Go.RowKit

set_option maxRecDepth 100000 in
set_option maxHeartbeats 2000000 in
theorem full_walk (most n cut : Int) (w : World) (_h0 : -9223372036854775808 ≤ most ∧ most ≤ 9223372036854775807) (_h1 : -9223372036854775808 ≤ n ∧ n ≤ 9223372036854775807) (_h2 : -9223372036854775808 ≤ cut ∧ cut ≤ 9223372036854775807) : Calls Try.prog 5 #[.int .i64 most, .int .i64 n, .int .i64 cut] w (SaysTrue w) := by
  obtain ⟨M, hM, hM0, hM1⟩ := mask15 most
  obtain ⟨N, hN, hN0, hN1⟩ := mask31 n
  go_enter Try.func5, Try.ntmps5
  go_wp2_with fail
  clear hM hN
  go_loopw [7, 8] (fun v i wr => ∃ (k : Nat) (l : List Ent), (k : Int) ≤ N ∧ i = .int .i64 k ∧ ((k : Int) ≤ M - 2 ∧ l.length = k ∨ M - 2 < k ∧ l.length = (M - 2).toNat) ∧ OwnE wr w.heap.size v l ∧ Below w.heap.size w wr) (fun _ i _ => (N - intOf i).toNat)
  case atStart => exact ⟨0, [], by omega, rfl, by simp; omega, OwnE.nil, Below.refl _ _⟩
  case round =>
    obtain ⟨k, l, hk, rfl, hq, ho, hb⟩ := hrel
    obtain ⟨A1, c1, rfl, hc1, r1⟩ := ho.shape
    by_cases hlt : (k : Int) < N
    · by_cases hkm : (k : Int) < M - 2
      · obtain ⟨q, hl⟩ : ∃ q, q = l.length := ⟨_, rfl⟩
        obtain rfl : q = k := by omega
        have hl2 := hl.symm
        have HL := Kept.mk hl2
        have HO := Kept.mk ho
        have HB := Kept.mk hb
        have HR := Kept.mk r1
        rw [← hl] at hc1
        rw [← hl]
        clear hl hl2 hq ho hb r1
        go_wp2_with fail
        refine (push_yes_at A1 q c1 l ⟨q, 0, 0, 0, 0, false, false, false⟩ (M - 2) _ HL.out hkm HR.out (by omega)).mono ?_
        rintro en w1 ⟨v1, rfl, h1, b1⟩
        obtain ⟨A2, c2, rfl, hc2, r2⟩ := h1.shape
        have hl3 : (l ++ [(⟨q, 0, 0, 0, 0, false, false, false⟩ : Ent)]).length = q + 1 := by simp [HL.out]
        rw [hl3] at h1 hc2
        rw [hl3]
        have H1 := Kept.mk h1
        have B1 := Kept.mk (HB.out.trans (b1.mono HB.out.size))
        have H3 := Kept.mk hl3
        clear r2 h1 b1 hl3
        go_wp2_with fail
        exact ⟨⟨q + 1, l ++ [⟨q, 0, 0, 0, 0, false, false, false⟩], by omega, by go_num, by have := H3.out; omega, OwnE.lower H1.out HB.out.size, B1.out⟩, by simp [intOf]; omega⟩
      · obtain ⟨q, hl⟩ : ∃ q, q = l.length := ⟨_, rfl⟩
        have hl2 := hl.symm
        have HL := Kept.mk hl2
        have HO := Kept.mk ho
        have HB := Kept.mk hb
        have HR := Kept.mk r1
        have HQ := Kept.mk hq
        have hmq : M - 2 ≤ q := by omega
        rw [← hl] at hc1
        rw [← hl]
        clear hl hl2 hq ho hb r1
        go_wp2_with fail
        refine (push_no_at A1 q c1 ⟨k, 0, 0, 0, 0, false, false, false⟩ (M - 2) _ hmq).mono ?_
        rintro en w1 ⟨rfl, b1⟩
        have B1 := Kept.mk (HB.out.trans (b1.mono HB.out.size))
        have H1 := Kept.mk (HO.out.past b1)
        clear b1
        go_wp2_with fail
        exact ⟨⟨k + 1, l, by omega, by go_num, by have := HQ.out; have := HL.out; omega, by rw [← HL.out]; exact H1.out, B1.out⟩, by simp [intOf]; omega⟩
    · obtain ⟨q, hl⟩ : ∃ q, q = l.length := ⟨_, rfl⟩
      have hl2 := hl.symm
      have HL := Kept.mk hl2
      have HO := Kept.mk ho
      have HB := Kept.mk hb
      have HR := Kept.mk r1
      have HQ := Kept.mk hq
      rw [← hl] at hc1
      rw [← hl]
      have hq31 : q ≤ 31 := by omega
      have hcase : (M - 2 < 0 ∧ q = 0 ∧ 0 < N) ∨ (M - 2 < 0 ∧ q = 0 ∧ N = 0) ∨ (0 ≤ M - 2 ∧ N ≤ M - 2 ∧ N = q) ∨ (0 ≤ M - 2 ∧ M - 2 < N ∧ M = q + 2) := by omega
      clear hl hl2 hq ho hb r1
      rcases hcase with ⟨g1, rfl, g0⟩ | ⟨g1, rfl, rfl⟩ | ⟨g1, g2, rfl⟩ | ⟨g1, g2, rfl⟩
      all_goals try simp only [Int.add_sub_cancel]
      all_goals go_wp2_with fail
      all_goals
        refine (cut_any_at A1 _ c1 l cut _ HL.out HR.out hc1 (by omega)).mono ?_
        rintro en w1 ⟨v1, rfl, h1, b1⟩
        obtain ⟨A2, c2, rfl, hc2, r2⟩ := h1.shape
        have HR2 := Kept.mk r2
        have HB2 := Kept.mk (HB.out.trans (b1.mono HB.out.size))
        have hlen : (l.take cut.toNat).length = min cut.toNat l.length := List.length_take
        rw [HL.out] at hlen
        clear h1 b1 r2
        obtain ⟨r, hr⟩ : ∃ r, r = (l.take cut.toNat).length := ⟨_, rfl⟩
        rw [← hr] at hc2 hlen ⊢
        have HRL := Kept.mk hr.symm
        clear hr
      all_goals
        have hr31 : r ≤ 31 := by omega
        rcases (show (cut < 0 ∧ r = 0) ∨ (0 ≤ cut ∧ cut = r ∧ cut ≤ l.length) ∨ ((l.length : Int) < cut ∧ r = l.length) by have := HL.out; omega) with ⟨e1, rfl⟩ | ⟨e1, rfl, e2⟩ | ⟨e1, e2⟩
      all_goals try rw [HL.out] at e2
      all_goals try rw [HL.out] at e1
      all_goals try (cases e2)
      all_goals clear hlen
      all_goals go_wp2_with fail
      all_goals
        have H := fun most => push_ok A2 _ c2 _ Ent.zero most _ HRL.out HR2.out (by omega)
        refine (H _).mono ?_
        clear H
        rintro en w3 ⟨v3, rfl, b3⟩
        have HB3 := Kept.mk (HB2.out.trans (b3.mono HB2.out.size))
        clear b3
      all_goals go_wp2_with fail
      all_goals
        refine (awake9 _).mono ?_
        rintro en w4 ⟨rfl, b4⟩
        have HB4 := Kept.mk (HB3.out.trans (b4.mono HB3.out.size))
        clear b4
      all_goals go_wp2_with fail
      all_goals go_ret
      all_goals exact ⟨rfl, HB4.out⟩
end Go.Proofs.Ytdfcbfcnanpolaa
