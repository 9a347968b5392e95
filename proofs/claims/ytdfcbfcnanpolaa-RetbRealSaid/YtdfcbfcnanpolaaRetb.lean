/- retb.Push, Pop; the document's SameInts. -/
import Derived.Test.YtdfcbfcnanpolaaRobc
import Derived.Lib.MinMax
import Derived.BigQuiet
namespace Go.Proofs.Ytdfcbfcnanpolaa
open Go.RowKit

theorem cut_int_from {w : World} {A : Option Addr} {l : List Int} (h : RdI w A l) {c : Nat} (hc : l.length ≤ c) (k : Nat) (hk : k ≤ l.length) :
    ∃ A1, (∀ w1, (Instr.slice 22 (.slice A l.length c) (some (.int .i64 (k : Int))) none none).run Try.prog w1 = .ok (.slice A1 (l.length - k) (c - k)) w1) ∧ RdI w A1 (l.drop k) := by
  obtain ⟨i, hi, _, hs, _⟩ := info_parts info_int
  refine ⟨if c = k then A else A.map (·.add (k * 1)), fun w1 => ?_, h.from_ hk hc⟩
  have := run_cut_from (P := Try.prog) 22 3 i 1 hs Try.underlying22 hi A l.length c (k : Int) (by omega) (by omega) w1
  simpa using this
theorem cut_int_to {w : World} {A : Option Addr} {l : List Int} (h : RdI w A l) {c : Nat} (hc : l.length ≤ c) (k : Nat) (hk : k ≤ l.length) :
    (∀ w1, (Instr.slice 22 (.slice A l.length c) none (some (.int .i64 (k : Int))) none).run Try.prog w1 = .ok (.slice A k c) w1) ∧ RdI w A (l.take k) := by
  obtain ⟨i, hi, _, hs, _⟩ := info_parts info_int
  refine ⟨fun w1 => ?_, h.to hk⟩
  have := run_cut_to (P := Try.prog) 22 3 i Try.underlying22 hi A l.length c (k : Int) (by omega) (by omega) hc w1
  simpa using this

set_option maxHeartbeats 800000 in
theorem same_ints (A A' : Option Addr) (c c' : Nat) (l m : List Int) (w : World) (hr : RdI w A l) (hr' : RdI w A' m) (hc : l.length ≤ 1000000) :
    Calls Try.prog 22 #[.slice A l.length c, .slice A' m.length c'] w fun en w' => en = .returned (.bool (decide (l = m))) ∧ Below w.heap.size w w' := by
  have HR := Kept.mk hr
  have HR' := Kept.mk hr'
  clear hr hr'
  by_cases hl : l.length = m.length
  · have HL := Kept.mk hl
    have hlb : ((l.length : Int) != (m.length : Int)) = false := by rw [hl]; simp
    have hcm : m.length ≤ 1000000 := by omega
    clear hl
    go_enter Try.func22, Try.ntmps22
    go_wp2_with fail
    go_loopw [5] (fun i wr => ∃ k : Nat, k ≤ l.length ∧ i = .int .i64 k ∧ Kept (l.take k = m.take k) ∧ Below w.heap.size w wr) (fun i _ => l.length - (intOf i).toNat)
    case atStart => exact ⟨0, Nat.zero_le _, rfl, ⟨by simp⟩, Below.refl _ _⟩
    case round =>
      obtain ⟨k, hk, rfl, ht, hb⟩ := hrel
      by_cases hlt : k < l.length
      · have hlm : k < m.length := by have := HL.out; omega
        obtain ⟨b, o, rfl, hb1, q0⟩ := (HR.out.past hb).at_ hlt
        obtain ⟨b', o', rfl, hb2, r0⟩ := (HR'.out.past hb).at_ hlm
        have HB := Kept.mk hb
        clear hb
        by_cases he : l[k] = m[k]
        · have hd : (l[k] != m[k]) = false := by simp [he]
          have HE := Kept.mk he
          clear he
          go_wp2_with fail
          go_quiet (fail)
          go_wp2_with fail
          go_roundw
          case rel => exact ⟨k + 1, by omega, by go_num, ⟨(take_step hlt hlm ht.out).2 HE.out⟩, below_drewN HB.out _⟩
          case measure => simp [intOf]; omega
        · have hd : (l[k] != m[k]) = true := by simp [he]
          have HE := Kept.mk he
          clear he
          go_wp2_with fail
          go_quiet (fail)
          go_wp2_with fail
          go_ret
          exact ⟨by simp [take_ne hlt hlm HE.out], below_drewN HB.out _⟩
      · have hke : l.take k = l := List.take_of_length_le (by omega)
        have hkm : m.take k = m := List.take_of_length_le (by have := HL.out; omega)
        have HK := Kept.mk hke
        have HM := Kept.mk hkm
        have HB := Kept.mk hb
        clear hke hkm hb
        go_wp2_with fail
        go_ret
        have he : l = m := by have := ht.out; rw [HK.out, HM.out] at this; exact this
        exact ⟨by simp [he], HB.out⟩
  · have hlb : ((l.length : Int) != (m.length : Int)) = true := by simp; omega
    go_enter Try.func22, Try.ntmps22
    go_wp2_with fail
    go_ret
    have hne : l ≠ m := fun h => hl (by rw [h])
    exact ⟨by simp [hne], Below.refl _ _⟩

/-- The last two at most. -/
def lastTwo (l : List Int) : List Int := l.drop (l.length - 2)

set_option maxHeartbeats 800000 in
theorem rpush (A : Option Addr) (c : Nat) (l : List Int) (pc : Int) (w : World) (hr : RdI w A l) (hn : l.length < 1000000) :
    Calls Try.prog 20 #[.slice A l.length c, .int .i64 pc] w (GivesI w (lastTwo (l ++ [pc]))) := by
  have HR := Kept.mk hr
  clear hr
  go_enter Try.func20, Try.ntmps20
  go_wp2_with fail
  refine (clone_int A c l w HR.out (by omega)).mono ?_
  rintro en w1 ⟨v, rfl, h1, b1⟩
  have H1 := Kept.mk h1
  have B1 := Kept.mk b1
  clear h1 b1
  go_wp2_with (at_builtin; go_must (refine append_int _ rfl (.tmp 7) (.tmp 9) rfl w.heap.size rfl (H1.out.past (below_alloc_self _ _)) _ pc rfl (heap_at_new (by simp)) hn ?c1 ?_))
  case c1 => have := B1.out.size; simp; omega
  intro v2 w2 h2 hg2 b2
  obtain ⟨A2, c2, rfl, hc2, r2⟩ := h2.shape
  obtain ⟨A3, hcut, r3⟩ := cut_int_from r2 hc2 (l.length - 1) (by simp; omega)
  rw [List.length_append, List.length_singleton] at hcut hc2 ⊢
  have hmx : max ((l.length : Int) + 1 - 2) 0 = ((l.length - 1 : Nat) : Int) := by omega
  have B2 := Kept.mk ((B1.out.alloc B1.out.size _).trans (b2.mono (Nat.le_refl _)))
  have R3 := Kept.mk r3
  clear h2 hg2 b2 r2 r3
  go_wp2_with fail
  refine (clone_int_at A3 (l.length + 1 - (l.length - 1)) (c2 - (l.length - 1)) ((l ++ [pc]).drop (l.length - 1)) _ (by simp) R3.out (by omega)).mono ?_
  rintro en w4 ⟨v4, rfl, h4, b4⟩
  have H4 := Kept.mk h4
  have B4 := Kept.mk (B2.out.trans (b4.mono B2.out.size))
  have S2 := Kept.mk B2.out.size
  clear h4 b4
  go_wp2_with fail
  go_ret
  refine ⟨_, rfl, ?_, B4.out⟩
  have := H4.out.lower S2.out
  unfold lastTwo
  rw [List.length_append, List.length_singleton, show l.length + 1 - 2 = l.length - 1 by omega]
  exact this

set_option maxHeartbeats 400000 in
theorem rpop_none (A : Option Addr) (c : Nat) (w : World) :
    Calls Try.prog 21 #[.slice A 0 c] w fun en w' => en = .returned (.tuple #[.int .i64 0, .slice none 0 0, .bool false]) ∧ Below w.heap.size w w' := by
  go_enter Try.func21, Try.ntmps21
  go_wp2_with fail
  exact at_ret _ [.int .i64 0, .slice none 0 0, .bool false] Try.results21 (.cons (.tmp rfl) (.cons (.tmp rfl) (.cons (.tmp rfl) .nil))) rfl ⟨rfl, Below.refl _ _⟩

set_option maxHeartbeats 800000 in
theorem rpop_some (A : Option Addr) (c k : Nat) (l : List Int) (w : World) (hl : l.length = k + 1) (hc : k + 1 ≤ c) (hr : RdI w A l) (hn : k < 1000000) :
    Calls Try.prog 21 #[.slice A (k + 1) c] w fun en w' => ∃ v, en = .returned (.tuple #[.int .i64 (l[k]'(by omega)), v, .bool true]) ∧ OwnI w' w.heap.size v (l.take k) ∧ Below w.heap.size w w' := by
  obtain ⟨hcut, hr1⟩ := cut_int_to hr (by rw [hl]; exact hc) k (by omega)
  rw [hl] at hcut
  obtain ⟨b, o, rfl, hb1, q0⟩ := hr.at_ (i := k) (by omega)
  have hq : ∀ w1, Below w.heap.size w w1 → w1.cell? ⟨b, o + k, none⟩ = some (.int .i64 (l[k]'(by omega))) := fun w1 h => by rw [h.cell (p := ⟨b, o + k, none⟩) hb1]; exact q0
  have HR := Kept.mk hr
  have HL := Kept.mk hl
  clear hr q0
  go_enter Try.func21, Try.ntmps21
  go_wp2_with fail
  refine region_tell w.heap.size (G := fun _ => True) (ts := [
      .is (.slice (some ⟨b, o, none⟩) (k + 1) c),
      .is (.int .i64 ((k : Int) + 1)),
      .is (.int .i64 k),
      .is (.pointer (some ⟨b, o + k, none⟩)),
      .is (.int .i64 (l[k]'(by omega))),
      .is (.slice (some ⟨b, o, none⟩) (k + 1) c),
      .is (.int .i64 ((k : Int) + 1)),
      .is (.int .i64 k),
      .is (.slice (some ⟨b, o, none⟩) k c),
      .makes (fun v w' => OwnI w' w.heap.size v (l.take k)),
      .is (.int .i64 (l[k]'(by omega))),
      .gets (fun v w' => OwnI w' w.heap.size v (l.take k)),
      .is (.bool true)]) (fin := [11]) (cs := []) (by kernel_rfl) rfl (by kernel_rfl) (by kernel_rfl) ⟨trivial, trivial, trivial, trivial, trivial, trivial, trivial, trivial, trivial, OwnI.grows, trivial, OwnI.grows, trivial, trivial⟩ (fun _ _ _ _ => trivial) (by simp) (by simp) trivial
    ⟨?_, ?_, ?_, ?_, ?_, ?_, ?_, ?_, ?_, ?_, ?_, ?_, ?_, trivial⟩ ?_
  · intro vals w1 hB _ hd
    clear hd
    refine one_value (v := Value.slice (some ⟨b, o, Option.none⟩) (k + 1) c) rfl ?_ ?_
    · kernel_rfl
    · exact post_is rfl
  · intro vals w1 hB _ hd
    clear hd
    refine one_value (v := Value.int .i64 ((k : Int) + 1)) rfl ?_ ?_
    · kernel_rfl
    · exact post_is rfl
  · intro vals w1 hB _ hd
    clear hd
    refine one_value (v := Value.int .i64 (k : Int)) rfl ?_ ?_
    · simp only [fillT, Tell.is, Act.put, List.setIfInBounds_toArray, List.set_cons_zero, List.set_cons_succ]; go_simp
      exact IntWalk.i64_in _ (by omega)
    · exact post_is rfl
  · intro vals w1 hB _ hd
    clear hd
    refine one_value (v := Value.pointer (some ⟨b, o + k, Option.none⟩)) rfl ?_ ?_
    · simp only [fillT, Tell.is, Act.put, List.setIfInBounds_toArray, List.set_cons_zero, List.set_cons_succ]; go_simp
      intro h
      omega
    · exact post_is rfl
  · intro vals w1 hB _ hd
    clear hd
    refine one_value (v := Value.int .i64 (l[k]'(by omega))) rfl ?_ ?_
    · have hq1 := hq w1 hB; simp only [fillT, Tell.is, Act.put, List.setIfInBounds_toArray, List.set_cons_zero, List.set_cons_succ]; go_simp
    · exact post_is rfl
  · intro vals w1 hB _ hd
    clear hd
    refine one_value (v := Value.slice (some ⟨b, o, Option.none⟩) (k + 1) c) rfl ?_ ?_
    · kernel_rfl
    · exact post_is rfl
  · intro vals w1 hB _ hd
    clear hd
    refine one_value (v := Value.int .i64 ((k : Int) + 1)) rfl ?_ ?_
    · kernel_rfl
    · exact post_is rfl
  · intro vals w1 hB _ hd
    clear hd
    refine one_value (v := Value.int .i64 (k : Int)) rfl ?_ ?_
    · simp only [fillT, Tell.is, Act.put, List.setIfInBounds_toArray, List.set_cons_zero, List.set_cons_succ]; go_simp
      exact IntWalk.i64_in _ (by omega)
    · exact post_is rfl
  · intro vals w1 hB _ hd
    clear hd
    refine one_value (v := Value.slice (some ⟨b, o, Option.none⟩) k c) rfl ?_ ?_
    · simp only [fillT, Tell.is, Act.put, List.setIfInBounds_toArray, List.set_cons_zero, List.set_cons_succ]; go_simp
    · exact post_is rfl
  · intro vals w1 hB _ hd
    clear hd
    refine one_calls (f := 34) (args := #[.slice (some ⟨b, o, Option.none⟩) k c]) (w1 := w1) rfl ?_ ?_
    · kernel_rfl
    refine (clone_int_at (some ⟨b, o, Option.none⟩) k c (l.take k) w1 (by simp [HL.out]) (hr1.past hB) (by omega)).mono ?_
    rintro e1 w2 ⟨v, rfl, h1, h2⟩
    exact ⟨v, rfl, post_makes rfl (OwnI.lower h1 hB.size) h2⟩
  · intro vals w1 hB _ hd
    clear hd
    refine one_value (v := Value.int .i64 (l[k]'(by omega))) rfl ?_ ?_
    · kernel_rfl
    · exact post_is rfl
  · intro vals w1 hB _ hd
    refine one_value (v := vals 9) rfl ?_ ?_
    · kernel_rfl
    · exact post_gets rfl (hd 9 (by kernel_rfl))
  · intro vals w1 hB _ hd
    clear hd
    refine one_value (v := Value.bool true) rfl ?_ ?_
    · kernel_rfl
    · exact post_is rfl
  · intro vals w1 hB _ hr
    have h11 : OwnI w1 w.heap.size (vals 11) (l.take k) := hr 11 (by simp) (by simp)
    clear hr
    simp only [fillT, Tell.is, Tell.makes, Tell.gets, Act.put, List.setIfInBounds_toArray, List.set_cons_zero, List.set_cons_succ]
    go_wp2
    exact at_ret _ [.int .i64 (l[k]'(by omega)), vals 11, .bool true] Try.results21 (.cons (.tmp rfl) (.cons (.tmp rfl) (.cons (.tmp rfl) .nil))) rfl ⟨_, rfl, h11, hB⟩
end Go.Proofs.Ytdfcbfcnanpolaa
