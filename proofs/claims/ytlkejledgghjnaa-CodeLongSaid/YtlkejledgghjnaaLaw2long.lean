/- The law CodeLong: each number takes one byte, or nine; parted between numbers both parts are rows. -/
import Derived.Test.YtlkejledgghjnaaCodi
import Derived.Test.YtlkejledgghjnaaRgg
import Derived.Test.YtlkejledgghjnaaMask
namespace Go.Proofs.Ytlkejledgghjnaa
open Go.RowKit

theorem str_size (x : List UInt8) : (⟨x.toArray⟩ : ByteArray).size = x.length := by simp [ByteArray.size]
theorem same_ints_at (A A' : Option Addr) (n n' c c' : Nat) (l m : List Int) (w : World) (hl : l.length = n) (hm : m.length = n') (hr : RdI w A l) (hr' : RdI w A' m) (hc : l.length ≤ 1000000) :
    Calls Try.prog 12 #[.slice A n c, .slice A' n' c'] w fun en w' => en = .returned (.bool (decide (l = m))) ∧ Below w.heap.size w w' := by
  subst hl hm
  exact same_ints A A' c c' l m w hr hr' hc
set_option maxRecDepth 100000 in
set_option maxHeartbeats 4000000 in
theorem long_walk (A : Option Addr) (c : Nat) (l : List Int) (at_ : Int) (w : World) (hc : l.length ≤ c) (_hm : c ≤ maxLen) (hr : RdI w A l) (hi : ∀ x ∈ l, -9223372036854775808 ≤ x ∧ x ≤ 9223372036854775807) (_ha : -9223372036854775808 ≤ at_ ∧ at_ ≤ 9223372036854775807) :
    Calls Try.prog 3 #[.slice A l.length c, .int .i64 at_] w (SaysTrue w) := by
  have HR := Kept.mk hr
  have HI : Kept (∀ x ∈ l, I64 x) := ⟨hi⟩
  clear hr hi
  by_cases h100 : 100 < l.length
  · go_enter Try.func3, Try.ntmps3
    go_wp2_with fail
    refine (awake2 _).mono ?_
    rintro en w4 ⟨rfl, b4⟩
    go_wp2_with fail
    go_ret
    exact ⟨rfl, b4⟩
  · obtain ⟨M, hM, hM0, hM1⟩ := mask255 at_
    obtain ⟨K, hK, hK1⟩ : ∃ K : Nat, M % ((l.length : Int) + 1) = K ∧ K ≤ l.length := ⟨(M % ((l.length : Int) + 1)).toNat, by have := Int.emod_nonneg M (show (l.length : Int) + 1 ≠ 0 by omega); omega, by have := Int.emod_lt_of_pos M (show (0 : Int) < (l.length : Int) + 1 by omega); have := Int.emod_nonneg M (show (l.length : Int) + 1 ≠ 0 by omega); omega⟩
    obtain ⟨hc1, hrt⟩ := cut_int_to HR.out hc K hK1
    obtain ⟨A1, hc2, hrd⟩ := cut_int_from HR.out hc K hK1
    have hz : ((l.length : Int) + 1 == 0) = false := by simp; omega
    have wl : IntKind.i64.wrap ((l.length : Int) + 1) = (l.length : Int) + 1 := IntWalk.i64_in _ (by omega)
    have HC1 := Kept.mk hc1
    have HC2 := Kept.mk hc2
    have HRT := Kept.mk hrt
    have HRD := Kept.mk hrd
    clear hc1 hc2 hrt hrd
    go_enter Try.func3, Try.ntmps3
    go_wp2_with fail
    go_loopw [5, 19] (fun nv iv wr => ∃ k : Nat, k ≤ l.length ∧ iv = .int .i64 k ∧ nv = .int .i64 ((putL (l.take k)).length : Nat) ∧ wr = w) (fun _ iv _ => l.length - (intOf iv).toNat)
    case atStart => exact ⟨0, by omega, rfl, rfl, rfl⟩
    case round =>
      obtain ⟨k, hk, rfl, rfl, rfl⟩ := hrel
      by_cases hlt : k < l.length
      · obtain ⟨b, o, rfl, hb1, q0⟩ := HR.out.at_ hlt
        have HT : Kept (putL (l.take (k + 1)) = putL (l.take k) ++ putN l[k]) := ⟨by rw [List.take_succ_eq_append_getElem hlt, putL_snoc]⟩
        have hpl : (putL (l.take k)).length ≤ 900 := by have := (putL_length_le (l.take k)).2; rw [List.length_take] at this; omega
        have w1 : IntKind.i64.wrap (((putL (l.take k)).length : Int) + 1) = ((putL (l.take k)).length : Int) + 1 := IntWalk.i64_in _ (by omega)
        have w2 : IntKind.i64.wrap (((putL (l.take k)).length : Int) + 1 + 8) = ((putL (l.take k)).length : Int) + 1 + 8 := IntWalk.i64_in _ (by omega)
        by_cases hs : -1 ≤ l[k] ∧ l[k] ≤ 253
        · obtain ⟨hs0, hs1⟩ := hs
          have hs2 : ¬ l[k] < -1 := by omega
          have HN : Kept ((putN l[k]).length = 1) := ⟨by rw [putN_short (by simp [short, hs0, hs1])]; rfl⟩
          go_wp2_with fail
          go_roundw
          case rel => exact ⟨k + 1, by omega, by go_num, by rw [HT.out, List.length_append, HN.out]; rfl, trivial⟩
          case measure => simp [intOf]; omega
        · have hsf : short l[k] = false := by simp only [short, decide_eq_false_iff_not]; exact hs
          have HN : Kept ((putN l[k]).length = 9) := ⟨by rw [putN_long hsf, List.length_cons, be_length]⟩
          have hor : l[k] < -1 ∨ (-1 ≤ l[k] ∧ 253 < l[k]) := by omega
          clear hs hsf
          rcases hor with hs | ⟨hs0, hs1⟩
          all_goals
            go_wp2_with fail
            go_roundw
            case rel => exact ⟨k + 1, by omega, by go_num, by rw [HT.out, List.length_append, HN.out, Int.natCast_add]; simp; try omega, trivial⟩
            case measure => simp [intOf]; omega
      · have hke : l.take k = l := List.take_of_length_le (by omega)
        rw [hke]
        clear hke
        have hn : Kept ((putL l).length ≤ 900) := ⟨by have := (putL_length_le l).2; omega⟩
        go_upto_region 12 with fail
        rw [hK]
        refine region_tell (wr.heap.size) (G := fun _ => True) (ts := [
            .is (.slice A l.length c),
            .makes (fun v w' => OwnB w' wr.heap.size v (putL l)),
            .is (.slice A l.length c),
            .is (.int .i64 (K : Int)),
            .is (.slice A K c),
            .makes (fun v w' => OwnB w' wr.heap.size v (putL (l.take K))),
            .is (.slice A l.length c),
            .is (.int .i64 (K : Int)),
            .is (.slice A1 (l.length - K) (c - K)),
            .makes (fun v w' => OwnB w' wr.heap.size v (putL (l.drop K))),
            .gets (fun v w' => OwnB w' wr.heap.size v (putL l)),
            .gets (fun v w' => OwnB w' wr.heap.size v (putL (l.take K))),
            .gets (fun v w' => OwnB w' wr.heap.size v (putL (l.drop K)))]) (fin := [10, 11, 12]) (cs := []) (by kernel_rfl) rfl (by kernel_rfl) (by kernel_rfl) ⟨trivial, OwnB.grows, trivial, trivial, trivial, OwnB.grows, trivial, trivial, trivial, OwnB.grows, OwnB.grows, OwnB.grows, OwnB.grows, trivial⟩ (fun _ _ _ _ => trivial) (by simp) (by simp) trivial
          ⟨?_, ?_, ?_, ?_, ?_, ?_, ?_, ?_, ?_, ?_, ?_, ?_, ?_, trivial⟩ ?_
        · intro vals w1 hB _ hd
          clear hd
          refine one_value (v := Value.slice A l.length c) rfl ?_ (post_is rfl)
          kernel_rfl
        · intro vals w1 hB _ hd
          clear hd
          refine one_calls (f := 10) (args := #[.slice A l.length c]) (w1 := w1) rfl ?_ ?_
          · kernel_rfl
          refine (code_put A _ c l w1 rfl (HR.out.past hB) (fun x hx => HI.out x (hx)) (by omega)).mono ?_
          rintro e1 w2 ⟨v, rfl, h1, h2⟩
          exact ⟨v, rfl, post_makes rfl (OwnB.lower h1 hB.size) h2⟩
        · intro vals w1 hB _ hd
          clear hd
          refine one_value (v := Value.slice A l.length c) rfl ?_ (post_is rfl)
          kernel_rfl
        · intro vals w1 hB _ hd
          clear hd
          refine one_value (v := Value.int .i64 (K : Int)) rfl ?_ (post_is rfl)
          kernel_rfl
        · intro vals w1 hB _ hd
          clear hd
          refine one_value (v := Value.slice A K c) rfl ?_ (post_is rfl)
          have hc1 := HC1.out; simp only [fillT, Tell.is, Tell.makes, Tell.gets, Act.put, List.setIfInBounds_toArray, List.set_cons_zero, List.set_cons_succ]; go_simp
        · intro vals w1 hB _ hd
          clear hd
          refine one_calls (f := 10) (args := #[.slice A K c]) (w1 := w1) rfl ?_ ?_
          · kernel_rfl
          refine (code_put A _ c (l.take K) w1 (by rw [List.length_take]; omega) (HRT.out.past hB) (fun x hx => HI.out x (List.mem_of_mem_take hx)) (by omega)).mono ?_
          rintro e1 w2 ⟨v, rfl, h1, h2⟩
          exact ⟨v, rfl, post_makes rfl (OwnB.lower h1 hB.size) h2⟩
        · intro vals w1 hB _ hd
          clear hd
          refine one_value (v := Value.slice A l.length c) rfl ?_ (post_is rfl)
          kernel_rfl
        · intro vals w1 hB _ hd
          clear hd
          refine one_value (v := Value.int .i64 (K : Int)) rfl ?_ (post_is rfl)
          kernel_rfl
        · intro vals w1 hB _ hd
          clear hd
          refine one_value (v := Value.slice A1 (l.length - K) (c - K)) rfl ?_ (post_is rfl)
          have hc2 := HC2.out; simp only [fillT, Tell.is, Tell.makes, Tell.gets, Act.put, List.setIfInBounds_toArray, List.set_cons_zero, List.set_cons_succ]; go_simp
        · intro vals w1 hB _ hd
          clear hd
          refine one_calls (f := 10) (args := #[.slice A1 (l.length - K) (c - K)]) (w1 := w1) rfl ?_ ?_
          · kernel_rfl
          refine (code_put A1 _ (c - K) (l.drop K) w1 (by rw [List.length_drop]) (HRD.out.past hB) (fun x hx => HI.out x (List.mem_of_mem_drop hx)) (by omega)).mono ?_
          rintro e1 w2 ⟨v, rfl, h1, h2⟩
          exact ⟨v, rfl, post_makes rfl (OwnB.lower h1 hB.size) h2⟩
        · intro vals w1 hB _ hd
          refine one_value (v := vals 1) rfl ?_ (post_gets rfl (hd 1 (by kernel_rfl)))
          kernel_rfl
        · intro vals w1 hB _ hd
          refine one_value (v := vals 5) rfl ?_ (post_gets rfl (hd 5 (by kernel_rfl)))
          kernel_rfl
        · intro vals w1 hB _ hd
          refine one_value (v := vals 9) rfl ?_ (post_gets rfl (hd 9 (by kernel_rfl)))
          kernel_rfl
        intro vals w1 hB _ hr
        simp only [fillT, Tell.is, Tell.makes, Tell.gets, Act.put, List.setIfInBounds_toArray, List.set_cons_zero, List.set_cons_succ]
        have h10 : OwnB w1 wr.heap.size (vals 10) (putL l) := hr 10 (by simp) (by simp)
        have h11 : OwnB w1 wr.heap.size (vals 11) (putL (l.take K)) := hr 11 (by simp) (by simp)
        have h12 : OwnB w1 wr.heap.size (vals 12) (putL (l.drop K)) := hr 12 (by simp) (by simp)
        clear hr
        obtain ⟨A5, c5, e5, hc5, r5⟩ := h10.shape
        obtain ⟨A6, c6, e6, hc6, r6⟩ := h11.shape
        obtain ⟨A7, c7, e7, hc7, r7⟩ := h12.shape
        have R5 := Kept.mk r5
        have R6 := Kept.mk r6
        have R7 := Kept.mk r7
        have B1 := Kept.mk hB
        have HKK := Kept.mk hK
        have HLT : Kept ((putL (l.take K)).length + (putL (l.drop K)).length = (putL l).length) := ⟨by rw [← List.length_append, ← putL_append, List.take_append_drop]⟩
        clear h10 h11 h12 r5 r6 r7 hB hK hM
        rw [e5, e6, e7]
        clear e5 e6 e7
        go_wp2_with fail
        refine (code_get A7 _ c7 (putL (l.drop K)) _ rfl hc7 R7.out (by have := HLT.out; have := hn.out; omega)).mono ?_
        rintro en w2 ⟨m, ok, A8, c8, hg⟩
        obtain ⟨rfl, rfl⟩ := hg.of_row (l := l.drop K) (fun x hx => HI.out x (List.mem_of_mem_drop hx)) rfl
        obtain ⟨rfl, hc8, -, r8, b8, -, -, -⟩ := hg
        have hs5 := run_string (c := c5) (R5.out.past b8) rfl
        have hs6 := run_string (c := c6) (R6.out.past b8) rfl
        have hs7 := run_string (c := c7) (R7.out.past b8) rfl
        have hle : (⟨(putL (l.take K)).toArray⟩ : ByteArray).size + (⟨(putL (l.drop K)).toArray⟩ : ByteArray).size ≤ 9223372036854775807 := by rw [str_size, str_size]; have := HLT.out; have := hn.out; omega
        have hadd := run_string_add_sum (P := Try.prog) w2 _ _ hle
        rw [ByteArray.mk_append_mk] at hadd
        have heq : (putL l == putL (l.take K) ++ putL (l.drop K)) = true := by rw [← putL_append, List.take_append_drop]; simp
        have hcut := HC2.out
        have R8 := Kept.mk r8
        have B8 := Kept.mk (B1.out.trans (b8.mono B1.out.size))
        clear r8 b8
        go_wp2_with fail
        refine (same_ints_at A8 A1 (l.length - K) (l.length - K) c8 (c - K) (l.drop K) (l.drop K) _ (by rw [List.length_drop]) (by rw [List.length_drop]) R8.out (HRD.out.past B8.out) (by rw [List.length_drop]; omega)).mono ?_
        rintro en w3 ⟨rfl, b3⟩
        have B3 := Kept.mk (B8.out.trans (b3.mono B8.out.size))
        rw [decide_eq_true (rfl : l.drop K = l.drop K)]
        clear b3 hs5 hs6 hs7 hadd heq hcut hle
        go_wp2_with fail
        refine (awake2 _).mono ?_
        rintro en w4 ⟨rfl, b4⟩
        have B4 := Kept.mk (B3.out.trans (b4.mono B3.out.size))
        clear b4
        go_wp2_with fail
        go_ret
        exact ⟨rfl, B4.out⟩
end Go.Proofs.Ytlkejledgghjnaa
