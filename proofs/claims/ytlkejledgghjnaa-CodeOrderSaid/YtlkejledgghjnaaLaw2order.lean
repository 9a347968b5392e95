/- The law CodeOrder: rows of bytes stand in order. -/
import Derived.Test.YtlkejledgghjnaaCodi
import Derived.Test.YtlkejledgghjnaaRgg
namespace Go.Proofs.Ytlkejledgghjnaa
open Go.RowKit

set_option maxRecDepth 100000 in
set_option maxHeartbeats 4000000 in
theorem order_walk (A0 : Option Addr) (c0 : Nat) (a : List UInt8) (A1 : Option Addr) (c1 : Nat) (b : List UInt8) (A2 : Option Addr) (c2 : Nat) (d : List UInt8) (w : World) (_hc0 : a.length ≤ c0) (_hm0 : c0 ≤ maxLen) (hr0 : RdB w A0 a)
    (_hc1 : b.length ≤ c1) (_hm1 : c1 ≤ maxLen) (hr1 : RdB w A1 b) (_hc2 : d.length ≤ c2) (_hm2 : c2 ≤ maxLen) (hr2 : RdB w A2 d) :
    Calls Try.prog 5 #[.slice A0 a.length c0, .slice A1 b.length c1, .slice A2 d.length c2] w (SaysTrue w) := by
  have HA := Kept.mk hr0
  have HB := Kept.mk hr1
  have HD := Kept.mk hr2
  obtain ⟨T1, e1⟩ : ∃ T1, IntKind.i64.wrap ((a.length : Int) + b.length) = T1 := ⟨_, rfl⟩
  obtain ⟨T2, e2⟩ : ∃ T2, IntKind.i64.wrap (T1 + d.length) = T2 := ⟨_, rfl⟩
  clear hr0 hr1 hr2
  by_cases h600 : (600 : Int) < T2
  · go_enter Try.func5, Try.ntmps5
    go_wp2_with fail
    refine (awake2 _).mono ?_
    rintro en w4 ⟨rfl, b4⟩
    go_wp2_with fail
    go_ret
    exact ⟨rfl, b4⟩
  · have HAA := Kept.mk (less_self a)
    cases hx : lessB a b with
    | false =>
      have HX := Kept.mk hx
      clear hx
      go_enter Try.func5, Try.ntmps5
      go_wp2_with fail
      refine (code_less A0 A1 _ _ c0 c1 a b _ rfl rfl HA.out HB.out).mono ?_
      rintro en w1 ⟨rfl, hw⟩
      have hw1 := hw.symm
      subst hw1
      clear hw
      rw [HX.out]
      go_wp2_with fail
      refine (code_less A0 A0 _ _ c0 c0 a a _ rfl rfl HA.out HA.out).mono ?_
      rintro en w1 ⟨rfl, hw⟩
      have hw1 := hw.symm
      subst hw1
      clear hw
      rw [HAA.out]
      rcases Nat.lt_or_ge b.length a.length with hl | hl
      · have hl1 : (b.length : Int) < a.length := by omega
        clear hl
        go_wp2_with fail
        refine (code_less A0 A1 _ _ c0 c1 a b _ rfl rfl HA.out HB.out).mono ?_
        rintro en w1 ⟨rfl, hw⟩
        have hw1 := hw.symm
        subst hw1
        clear hw
        rw [HX.out]
        have hl2 : ¬ (a.length : Int) < b.length := by omega
        go_wp2_with fail
        by_cases hab : a = b
        · have HN : Kept ((a == b) = true) := ⟨by simpa using hab⟩
          have HY : Kept (lessB b a = false) := ⟨by rw [hab]; exact less_self b⟩
          clear hab
          refine region_tell (w.heap.size) (G := fun _ => True) (ts := [
              .is (.slice A0 a.length c0),
              .is (.slice A1 b.length c1),
              .is (.bool false),
              .is (.bool false),
              .is (.slice A1 b.length c1),
              .is (.slice A0 a.length c0),
              .is (.bool false),
              .is (.bool false),
              .is (.slice A0 a.length c0),
              .is (.string ⟨a.toArray⟩),
              .is (.slice A1 b.length c1),
              .is (.string ⟨b.toArray⟩),
              .is (.bool false),
              .is (.bool true),
              .is (.bool true),
              .draws (.bool true),
              .is (.bool true),
              .is (.bool true)]) (fin := []) (cs := []) (by kernel_rfl) rfl (by kernel_rfl) (by kernel_rfl) ⟨trivial, trivial, trivial, trivial, trivial, trivial, trivial, trivial, trivial, trivial, trivial, trivial, trivial, trivial, trivial, trivial, trivial, trivial, trivial⟩ (fun _ _ _ _ => trivial) (by simp) (by simp) trivial
            ⟨?_, ?_, ?_, ?_, ?_, ?_, ?_, ?_, ?_, ?_, ?_, ?_, ?_, ?_, ?_, ?_, ?_, ?_, trivial⟩ ?_
          · intro vals w1 hB _ hd
            clear hd
            refine one_value (v := Value.slice A0 a.length c0) rfl ?_ (post_is rfl)
            kernel_rfl
          · intro vals w1 hB _ hd
            clear hd
            refine one_value (v := Value.slice A1 b.length c1) rfl ?_ (post_is rfl)
            kernel_rfl
          · intro vals w1 hB _ hd
            clear hd
            refine one_calls (f := 13) (args := #[.slice A0 a.length c0, .slice A1 b.length c1]) (w1 := w1) rfl ?_ ?_
            · kernel_rfl
            refine (code_less A0 A1 _ _ c0 c1 a b w1 rfl rfl (HA.out.past hB) (HB.out.past hB)).mono ?_
            rintro e1 w2 ⟨rfl, hw⟩
            rw [HX.out, hw]
            exact ⟨_, rfl, post_is rfl⟩
          · intro vals w1 hB _ hd
            clear hd
            refine one_value (v := Value.bool false) rfl ?_ (post_is rfl)
            kernel_rfl
          · intro vals w1 hB _ hd
            clear hd
            refine one_value_g (v := Value.slice A1 b.length c1) (by kernel_rfl) ?_ (post_is rfl)
            kernel_rfl
          · intro vals w1 hB _ hd
            clear hd
            refine one_value_g (v := Value.slice A0 a.length c0) (by kernel_rfl) ?_ (post_is rfl)
            kernel_rfl
          · intro vals w1 hB _ hd
            clear hd
            refine one_calls_g (f := 13) (args := #[.slice A1 b.length c1, .slice A0 a.length c0]) (w1 := w1) (by kernel_rfl) ?_ ?_
            · kernel_rfl
            refine (code_less A1 A0 _ _ c1 c0 b a w1 rfl rfl (HB.out.past hB) (HA.out.past hB)).mono ?_
            rintro e1 w2 ⟨rfl, hw⟩
            rw [HY.out, hw]
            exact ⟨_, rfl, post_is rfl⟩
          · intro vals w1 hB _ hd
            clear hd
            refine one_value (v := Value.bool false) rfl ?_ (post_is rfl)
            kernel_rfl
          · intro vals w1 hB _ hd
            clear hd
            refine one_value (v := Value.slice A0 a.length c0) rfl ?_ (post_is rfl)
            kernel_rfl
          · intro vals w1 hB _ hd
            clear hd
            refine one_value (v := Value.string ⟨a.toArray⟩) rfl ?_ (post_is rfl)
            have hs := run_string (c := c0) (HA.out.past hB) rfl; simp only [fillT, Tell.is, Tell.draws, Act.put, List.setIfInBounds_toArray, List.set_cons_zero, List.set_cons_succ]; go_simp
          · intro vals w1 hB _ hd
            clear hd
            refine one_value (v := Value.slice A1 b.length c1) rfl ?_ (post_is rfl)
            kernel_rfl
          · intro vals w1 hB _ hd
            clear hd
            refine one_value (v := Value.string ⟨b.toArray⟩) rfl ?_ (post_is rfl)
            have hs := run_string (c := c1) (HB.out.past hB) rfl; simp only [fillT, Tell.is, Tell.draws, Act.put, List.setIfInBounds_toArray, List.set_cons_zero, List.set_cons_succ]; go_simp
          · intro vals w1 hB _ hd
            clear hd
            refine one_value (v := Value.bool false) rfl ?_ (post_is rfl)
            have hn := HN.out; simp only [fillT, Tell.is, Tell.draws, Act.put, List.setIfInBounds_toArray, List.set_cons_zero, List.set_cons_succ]; go_simp
          · intro vals w1 hB _ hd
            clear hd
            refine one_value (v := Value.bool true) rfl ?_ (post_is rfl)
            kernel_rfl
          · intro vals w1 hB _ hd
            clear hd
            refine one_value (v := Value.bool true) rfl ?_ (post_is rfl)
            kernel_rfl
          · intro vals w1 hB _ hd
            clear hd
            refine one_calls_g (f := 9) (args := #[]) (w1 := w1) (by kernel_rfl) ?_ ?_
            · kernel_rfl
            refine (awake2 w1).mono ?_
            rintro e1 w2 ⟨rfl, hw⟩
            exact ⟨_, rfl, post_draws rfl hw⟩
          · intro vals w1 hB _ hd
            clear hd
            refine one_value (v := Value.bool true) rfl ?_ (post_is rfl)
            kernel_rfl
          · intro vals w1 hB _ hd
            clear hd
            refine one_value (v := Value.bool true) rfl ?_ (post_is rfl)
            kernel_rfl
          intro vals w1 hB _ hr
          simp only [fillT, Tell.is, Tell.draws, Act.put, List.setIfInBounds_toArray, List.set_cons_zero, List.set_cons_succ]
          go_wp2
          go_ret
          exact ⟨rfl, hB⟩
        · have HN : Kept ((a == b) = false) := ⟨by simpa using hab⟩
          have HY : Kept (lessB b a = true) := ⟨by have := less_one a b; rw [HX.out] at this; simpa [hab] using this⟩
          clear hab
          refine region_tell (w.heap.size) (G := fun _ => True) (ts := [
              .is (.slice A0 a.length c0),
              .is (.slice A1 b.length c1),
              .is (.bool false),
              .is (.bool false),
              .is (.slice A1 b.length c1),
              .is (.slice A0 a.length c0),
              .is (.bool true),
              .is (.bool true),
              .is (.slice A0 a.length c0),
              .is (.string ⟨a.toArray⟩),
              .is (.slice A1 b.length c1),
              .is (.string ⟨b.toArray⟩),
              .is (.bool true),
              .is (.bool true),
              .is (.bool true),
              .draws (.bool true),
              .is (.bool true),
              .is (.bool true)]) (fin := []) (cs := []) (by kernel_rfl) rfl (by kernel_rfl) (by kernel_rfl) ⟨trivial, trivial, trivial, trivial, trivial, trivial, trivial, trivial, trivial, trivial, trivial, trivial, trivial, trivial, trivial, trivial, trivial, trivial, trivial⟩ (fun _ _ _ _ => trivial) (by simp) (by simp) trivial
            ⟨?_, ?_, ?_, ?_, ?_, ?_, ?_, ?_, ?_, ?_, ?_, ?_, ?_, ?_, ?_, ?_, ?_, ?_, trivial⟩ ?_
          · intro vals w1 hB _ hd
            clear hd
            refine one_value (v := Value.slice A0 a.length c0) rfl ?_ (post_is rfl)
            kernel_rfl
          · intro vals w1 hB _ hd
            clear hd
            refine one_value (v := Value.slice A1 b.length c1) rfl ?_ (post_is rfl)
            kernel_rfl
          · intro vals w1 hB _ hd
            clear hd
            refine one_calls (f := 13) (args := #[.slice A0 a.length c0, .slice A1 b.length c1]) (w1 := w1) rfl ?_ ?_
            · kernel_rfl
            refine (code_less A0 A1 _ _ c0 c1 a b w1 rfl rfl (HA.out.past hB) (HB.out.past hB)).mono ?_
            rintro e1 w2 ⟨rfl, hw⟩
            rw [HX.out, hw]
            exact ⟨_, rfl, post_is rfl⟩
          · intro vals w1 hB _ hd
            clear hd
            refine one_value (v := Value.bool false) rfl ?_ (post_is rfl)
            kernel_rfl
          · intro vals w1 hB _ hd
            clear hd
            refine one_value_g (v := Value.slice A1 b.length c1) (by kernel_rfl) ?_ (post_is rfl)
            kernel_rfl
          · intro vals w1 hB _ hd
            clear hd
            refine one_value_g (v := Value.slice A0 a.length c0) (by kernel_rfl) ?_ (post_is rfl)
            kernel_rfl
          · intro vals w1 hB _ hd
            clear hd
            refine one_calls_g (f := 13) (args := #[.slice A1 b.length c1, .slice A0 a.length c0]) (w1 := w1) (by kernel_rfl) ?_ ?_
            · kernel_rfl
            refine (code_less A1 A0 _ _ c1 c0 b a w1 rfl rfl (HB.out.past hB) (HA.out.past hB)).mono ?_
            rintro e1 w2 ⟨rfl, hw⟩
            rw [HY.out, hw]
            exact ⟨_, rfl, post_is rfl⟩
          · intro vals w1 hB _ hd
            clear hd
            refine one_value (v := Value.bool true) rfl ?_ (post_is rfl)
            kernel_rfl
          · intro vals w1 hB _ hd
            clear hd
            refine one_value (v := Value.slice A0 a.length c0) rfl ?_ (post_is rfl)
            kernel_rfl
          · intro vals w1 hB _ hd
            clear hd
            refine one_value (v := Value.string ⟨a.toArray⟩) rfl ?_ (post_is rfl)
            have hs := run_string (c := c0) (HA.out.past hB) rfl; simp only [fillT, Tell.is, Tell.draws, Act.put, List.setIfInBounds_toArray, List.set_cons_zero, List.set_cons_succ]; go_simp
          · intro vals w1 hB _ hd
            clear hd
            refine one_value (v := Value.slice A1 b.length c1) rfl ?_ (post_is rfl)
            kernel_rfl
          · intro vals w1 hB _ hd
            clear hd
            refine one_value (v := Value.string ⟨b.toArray⟩) rfl ?_ (post_is rfl)
            have hs := run_string (c := c1) (HB.out.past hB) rfl; simp only [fillT, Tell.is, Tell.draws, Act.put, List.setIfInBounds_toArray, List.set_cons_zero, List.set_cons_succ]; go_simp
          · intro vals w1 hB _ hd
            clear hd
            refine one_value (v := Value.bool true) rfl ?_ (post_is rfl)
            have hn := HN.out; simp only [fillT, Tell.is, Tell.draws, Act.put, List.setIfInBounds_toArray, List.set_cons_zero, List.set_cons_succ]; go_simp
          · intro vals w1 hB _ hd
            clear hd
            refine one_value (v := Value.bool true) rfl ?_ (post_is rfl)
            kernel_rfl
          · intro vals w1 hB _ hd
            clear hd
            refine one_value (v := Value.bool true) rfl ?_ (post_is rfl)
            kernel_rfl
          · intro vals w1 hB _ hd
            clear hd
            refine one_calls_g (f := 9) (args := #[]) (w1 := w1) (by kernel_rfl) ?_ ?_
            · kernel_rfl
            refine (awake2 w1).mono ?_
            rintro e1 w2 ⟨rfl, hw⟩
            exact ⟨_, rfl, post_draws rfl hw⟩
          · intro vals w1 hB _ hd
            clear hd
            refine one_value (v := Value.bool true) rfl ?_ (post_is rfl)
            kernel_rfl
          · intro vals w1 hB _ hd
            clear hd
            refine one_value (v := Value.bool true) rfl ?_ (post_is rfl)
            kernel_rfl
          intro vals w1 hB _ hr
          simp only [fillT, Tell.is, Tell.draws, Act.put, List.setIfInBounds_toArray, List.set_cons_zero, List.set_cons_succ]
          go_wp2
          go_ret
          exact ⟨rfl, hB⟩
      · have hl1 : a.length = b.length := by
          rcases Nat.lt_or_ge a.length b.length with h | h
          · have := less_short h; rw [HX.out] at this; cases this
          · omega
        have hl2 : ¬ (b.length : Int) < a.length := by omega
        have hl3 : ¬ (a.length : Int) < b.length := by omega
        clear hl hl1
        go_wp2_with fail
        by_cases hab : a = b
        · have HN : Kept ((a == b) = true) := ⟨by simpa using hab⟩
          have HY : Kept (lessB b a = false) := ⟨by rw [hab]; exact less_self b⟩
          clear hab
          refine region_tell (w.heap.size) (G := fun _ => True) (ts := [
              .is (.slice A0 a.length c0),
              .is (.slice A1 b.length c1),
              .is (.bool false),
              .is (.bool false),
              .is (.slice A1 b.length c1),
              .is (.slice A0 a.length c0),
              .is (.bool false),
              .is (.bool false),
              .is (.slice A0 a.length c0),
              .is (.string ⟨a.toArray⟩),
              .is (.slice A1 b.length c1),
              .is (.string ⟨b.toArray⟩),
              .is (.bool false),
              .is (.bool true),
              .is (.bool true),
              .draws (.bool true),
              .is (.bool true),
              .is (.bool true)]) (fin := []) (cs := []) (by kernel_rfl) rfl (by kernel_rfl) (by kernel_rfl) ⟨trivial, trivial, trivial, trivial, trivial, trivial, trivial, trivial, trivial, trivial, trivial, trivial, trivial, trivial, trivial, trivial, trivial, trivial, trivial⟩ (fun _ _ _ _ => trivial) (by simp) (by simp) trivial
            ⟨?_, ?_, ?_, ?_, ?_, ?_, ?_, ?_, ?_, ?_, ?_, ?_, ?_, ?_, ?_, ?_, ?_, ?_, trivial⟩ ?_
          · intro vals w1 hB _ hd
            clear hd
            refine one_value (v := Value.slice A0 a.length c0) rfl ?_ (post_is rfl)
            kernel_rfl
          · intro vals w1 hB _ hd
            clear hd
            refine one_value (v := Value.slice A1 b.length c1) rfl ?_ (post_is rfl)
            kernel_rfl
          · intro vals w1 hB _ hd
            clear hd
            refine one_calls (f := 13) (args := #[.slice A0 a.length c0, .slice A1 b.length c1]) (w1 := w1) rfl ?_ ?_
            · kernel_rfl
            refine (code_less A0 A1 _ _ c0 c1 a b w1 rfl rfl (HA.out.past hB) (HB.out.past hB)).mono ?_
            rintro e1 w2 ⟨rfl, hw⟩
            rw [HX.out, hw]
            exact ⟨_, rfl, post_is rfl⟩
          · intro vals w1 hB _ hd
            clear hd
            refine one_value (v := Value.bool false) rfl ?_ (post_is rfl)
            kernel_rfl
          · intro vals w1 hB _ hd
            clear hd
            refine one_value_g (v := Value.slice A1 b.length c1) (by kernel_rfl) ?_ (post_is rfl)
            kernel_rfl
          · intro vals w1 hB _ hd
            clear hd
            refine one_value_g (v := Value.slice A0 a.length c0) (by kernel_rfl) ?_ (post_is rfl)
            kernel_rfl
          · intro vals w1 hB _ hd
            clear hd
            refine one_calls_g (f := 13) (args := #[.slice A1 b.length c1, .slice A0 a.length c0]) (w1 := w1) (by kernel_rfl) ?_ ?_
            · kernel_rfl
            refine (code_less A1 A0 _ _ c1 c0 b a w1 rfl rfl (HB.out.past hB) (HA.out.past hB)).mono ?_
            rintro e1 w2 ⟨rfl, hw⟩
            rw [HY.out, hw]
            exact ⟨_, rfl, post_is rfl⟩
          · intro vals w1 hB _ hd
            clear hd
            refine one_value (v := Value.bool false) rfl ?_ (post_is rfl)
            kernel_rfl
          · intro vals w1 hB _ hd
            clear hd
            refine one_value (v := Value.slice A0 a.length c0) rfl ?_ (post_is rfl)
            kernel_rfl
          · intro vals w1 hB _ hd
            clear hd
            refine one_value (v := Value.string ⟨a.toArray⟩) rfl ?_ (post_is rfl)
            have hs := run_string (c := c0) (HA.out.past hB) rfl; simp only [fillT, Tell.is, Tell.draws, Act.put, List.setIfInBounds_toArray, List.set_cons_zero, List.set_cons_succ]; go_simp
          · intro vals w1 hB _ hd
            clear hd
            refine one_value (v := Value.slice A1 b.length c1) rfl ?_ (post_is rfl)
            kernel_rfl
          · intro vals w1 hB _ hd
            clear hd
            refine one_value (v := Value.string ⟨b.toArray⟩) rfl ?_ (post_is rfl)
            have hs := run_string (c := c1) (HB.out.past hB) rfl; simp only [fillT, Tell.is, Tell.draws, Act.put, List.setIfInBounds_toArray, List.set_cons_zero, List.set_cons_succ]; go_simp
          · intro vals w1 hB _ hd
            clear hd
            refine one_value (v := Value.bool false) rfl ?_ (post_is rfl)
            have hn := HN.out; simp only [fillT, Tell.is, Tell.draws, Act.put, List.setIfInBounds_toArray, List.set_cons_zero, List.set_cons_succ]; go_simp
          · intro vals w1 hB _ hd
            clear hd
            refine one_value (v := Value.bool true) rfl ?_ (post_is rfl)
            kernel_rfl
          · intro vals w1 hB _ hd
            clear hd
            refine one_value (v := Value.bool true) rfl ?_ (post_is rfl)
            kernel_rfl
          · intro vals w1 hB _ hd
            clear hd
            refine one_calls_g (f := 9) (args := #[]) (w1 := w1) (by kernel_rfl) ?_ ?_
            · kernel_rfl
            refine (awake2 w1).mono ?_
            rintro e1 w2 ⟨rfl, hw⟩
            exact ⟨_, rfl, post_draws rfl hw⟩
          · intro vals w1 hB _ hd
            clear hd
            refine one_value (v := Value.bool true) rfl ?_ (post_is rfl)
            kernel_rfl
          · intro vals w1 hB _ hd
            clear hd
            refine one_value (v := Value.bool true) rfl ?_ (post_is rfl)
            kernel_rfl
          intro vals w1 hB _ hr
          simp only [fillT, Tell.is, Tell.draws, Act.put, List.setIfInBounds_toArray, List.set_cons_zero, List.set_cons_succ]
          go_wp2
          go_ret
          exact ⟨rfl, hB⟩
        · have HN : Kept ((a == b) = false) := ⟨by simpa using hab⟩
          have HY : Kept (lessB b a = true) := ⟨by have := less_one a b; rw [HX.out] at this; simpa [hab] using this⟩
          clear hab
          refine region_tell (w.heap.size) (G := fun _ => True) (ts := [
              .is (.slice A0 a.length c0),
              .is (.slice A1 b.length c1),
              .is (.bool false),
              .is (.bool false),
              .is (.slice A1 b.length c1),
              .is (.slice A0 a.length c0),
              .is (.bool true),
              .is (.bool true),
              .is (.slice A0 a.length c0),
              .is (.string ⟨a.toArray⟩),
              .is (.slice A1 b.length c1),
              .is (.string ⟨b.toArray⟩),
              .is (.bool true),
              .is (.bool true),
              .is (.bool true),
              .draws (.bool true),
              .is (.bool true),
              .is (.bool true)]) (fin := []) (cs := []) (by kernel_rfl) rfl (by kernel_rfl) (by kernel_rfl) ⟨trivial, trivial, trivial, trivial, trivial, trivial, trivial, trivial, trivial, trivial, trivial, trivial, trivial, trivial, trivial, trivial, trivial, trivial, trivial⟩ (fun _ _ _ _ => trivial) (by simp) (by simp) trivial
            ⟨?_, ?_, ?_, ?_, ?_, ?_, ?_, ?_, ?_, ?_, ?_, ?_, ?_, ?_, ?_, ?_, ?_, ?_, trivial⟩ ?_
          · intro vals w1 hB _ hd
            clear hd
            refine one_value (v := Value.slice A0 a.length c0) rfl ?_ (post_is rfl)
            kernel_rfl
          · intro vals w1 hB _ hd
            clear hd
            refine one_value (v := Value.slice A1 b.length c1) rfl ?_ (post_is rfl)
            kernel_rfl
          · intro vals w1 hB _ hd
            clear hd
            refine one_calls (f := 13) (args := #[.slice A0 a.length c0, .slice A1 b.length c1]) (w1 := w1) rfl ?_ ?_
            · kernel_rfl
            refine (code_less A0 A1 _ _ c0 c1 a b w1 rfl rfl (HA.out.past hB) (HB.out.past hB)).mono ?_
            rintro e1 w2 ⟨rfl, hw⟩
            rw [HX.out, hw]
            exact ⟨_, rfl, post_is rfl⟩
          · intro vals w1 hB _ hd
            clear hd
            refine one_value (v := Value.bool false) rfl ?_ (post_is rfl)
            kernel_rfl
          · intro vals w1 hB _ hd
            clear hd
            refine one_value_g (v := Value.slice A1 b.length c1) (by kernel_rfl) ?_ (post_is rfl)
            kernel_rfl
          · intro vals w1 hB _ hd
            clear hd
            refine one_value_g (v := Value.slice A0 a.length c0) (by kernel_rfl) ?_ (post_is rfl)
            kernel_rfl
          · intro vals w1 hB _ hd
            clear hd
            refine one_calls_g (f := 13) (args := #[.slice A1 b.length c1, .slice A0 a.length c0]) (w1 := w1) (by kernel_rfl) ?_ ?_
            · kernel_rfl
            refine (code_less A1 A0 _ _ c1 c0 b a w1 rfl rfl (HB.out.past hB) (HA.out.past hB)).mono ?_
            rintro e1 w2 ⟨rfl, hw⟩
            rw [HY.out, hw]
            exact ⟨_, rfl, post_is rfl⟩
          · intro vals w1 hB _ hd
            clear hd
            refine one_value (v := Value.bool true) rfl ?_ (post_is rfl)
            kernel_rfl
          · intro vals w1 hB _ hd
            clear hd
            refine one_value (v := Value.slice A0 a.length c0) rfl ?_ (post_is rfl)
            kernel_rfl
          · intro vals w1 hB _ hd
            clear hd
            refine one_value (v := Value.string ⟨a.toArray⟩) rfl ?_ (post_is rfl)
            have hs := run_string (c := c0) (HA.out.past hB) rfl; simp only [fillT, Tell.is, Tell.draws, Act.put, List.setIfInBounds_toArray, List.set_cons_zero, List.set_cons_succ]; go_simp
          · intro vals w1 hB _ hd
            clear hd
            refine one_value (v := Value.slice A1 b.length c1) rfl ?_ (post_is rfl)
            kernel_rfl
          · intro vals w1 hB _ hd
            clear hd
            refine one_value (v := Value.string ⟨b.toArray⟩) rfl ?_ (post_is rfl)
            have hs := run_string (c := c1) (HB.out.past hB) rfl; simp only [fillT, Tell.is, Tell.draws, Act.put, List.setIfInBounds_toArray, List.set_cons_zero, List.set_cons_succ]; go_simp
          · intro vals w1 hB _ hd
            clear hd
            refine one_value (v := Value.bool true) rfl ?_ (post_is rfl)
            have hn := HN.out; simp only [fillT, Tell.is, Tell.draws, Act.put, List.setIfInBounds_toArray, List.set_cons_zero, List.set_cons_succ]; go_simp
          · intro vals w1 hB _ hd
            clear hd
            refine one_value (v := Value.bool true) rfl ?_ (post_is rfl)
            kernel_rfl
          · intro vals w1 hB _ hd
            clear hd
            refine one_value (v := Value.bool true) rfl ?_ (post_is rfl)
            kernel_rfl
          · intro vals w1 hB _ hd
            clear hd
            refine one_calls_g (f := 9) (args := #[]) (w1 := w1) (by kernel_rfl) ?_ ?_
            · kernel_rfl
            refine (awake2 w1).mono ?_
            rintro e1 w2 ⟨rfl, hw⟩
            exact ⟨_, rfl, post_draws rfl hw⟩
          · intro vals w1 hB _ hd
            clear hd
            refine one_value (v := Value.bool true) rfl ?_ (post_is rfl)
            kernel_rfl
          · intro vals w1 hB _ hd
            clear hd
            refine one_value (v := Value.bool true) rfl ?_ (post_is rfl)
            kernel_rfl
          intro vals w1 hB _ hr
          simp only [fillT, Tell.is, Tell.draws, Act.put, List.setIfInBounds_toArray, List.set_cons_zero, List.set_cons_succ]
          go_wp2
          go_ret
          exact ⟨rfl, hB⟩
    | true =>
      have HX := Kept.mk hx
      clear hx
      cases hy : lessB b d with
      | false =>
        have HBD := Kept.mk hy
        clear hy
        go_enter Try.func5, Try.ntmps5
        go_wp2_with fail
        refine (code_less A0 A1 _ _ c0 c1 a b _ rfl rfl HA.out HB.out).mono ?_
        rintro en w1 ⟨rfl, hw⟩
        have hw1 := hw.symm
        subst hw1
        clear hw
        rw [HX.out]
        go_wp2_with fail
        refine (code_less A1 A2 _ _ c1 c2 b d _ rfl rfl HB.out HD.out).mono ?_
        rintro en w1 ⟨rfl, hw⟩
        have hw1 := hw.symm
        subst hw1
        clear hw
        rw [HBD.out]
        go_wp2_with fail
        refine (code_less A0 A0 _ _ c0 c0 a a _ rfl rfl HA.out HA.out).mono ?_
        rintro en w1 ⟨rfl, hw⟩
        have hw1 := hw.symm
        subst hw1
        clear hw
        rw [HAA.out]
        have hl0 : ¬ b.length < a.length := fun h => by have := less_long h; rw [HX.out] at this; cases this
        have hl1 : ¬ (b.length : Int) < a.length := by omega
        clear hl0
        by_cases hl2 : (a.length : Int) < b.length
        · go_wp2_with fail
          refine (code_less A0 A1 _ _ c0 c1 a b _ rfl rfl HA.out HB.out).mono ?_
          rintro en w1 ⟨rfl, hw⟩
          have hw1 := hw.symm
          subst hw1
          clear hw
          rw [HX.out]
          go_wp2_with fail
          have hne : a ≠ b := by
            intro e
            have h := HX.out
            rw [e, less_self] at h
            cases h
          have HN : Kept ((a == b) = false) := ⟨by simpa using hne⟩
          clear hne
          refine region_tell (w.heap.size) (G := fun _ => True) (ts := [
              .is (.slice A0 a.length c0),
              .is (.slice A1 b.length c1),
              .is (.bool true),
              .is (.bool true),
              .is (undef),
              .is (undef),
              .is (undef),
              .is (.bool true),
              .is (.slice A0 a.length c0),
              .is (.string ⟨a.toArray⟩),
              .is (.slice A1 b.length c1),
              .is (.string ⟨b.toArray⟩),
              .is (.bool true),
              .is (.bool true),
              .is (.bool true),
              .draws (.bool true),
              .is (.bool true),
              .is (.bool true)]) (fin := []) (cs := []) (by kernel_rfl) rfl (by kernel_rfl) (by kernel_rfl) ⟨trivial, trivial, trivial, trivial, trivial, trivial, trivial, trivial, trivial, trivial, trivial, trivial, trivial, trivial, trivial, trivial, trivial, trivial, trivial⟩ (fun _ _ _ _ => trivial) (by simp) (by simp) trivial
            ⟨?_, ?_, ?_, ?_, ?_, ?_, ?_, ?_, ?_, ?_, ?_, ?_, ?_, ?_, ?_, ?_, ?_, ?_, trivial⟩ ?_
          · intro vals w1 hB _ hd
            clear hd
            refine one_value (v := Value.slice A0 a.length c0) rfl ?_ (post_is rfl)
            kernel_rfl
          · intro vals w1 hB _ hd
            clear hd
            refine one_value (v := Value.slice A1 b.length c1) rfl ?_ (post_is rfl)
            kernel_rfl
          · intro vals w1 hB _ hd
            clear hd
            refine one_calls (f := 13) (args := #[.slice A0 a.length c0, .slice A1 b.length c1]) (w1 := w1) rfl ?_ ?_
            · kernel_rfl
            refine (code_less A0 A1 _ _ c0 c1 a b w1 rfl rfl (HA.out.past hB) (HB.out.past hB)).mono ?_
            rintro e1 w2 ⟨rfl, hw⟩
            rw [HX.out, hw]
            exact ⟨_, rfl, post_is rfl⟩
          · intro vals w1 hB _ hd
            clear hd
            refine one_value (v := Value.bool true) rfl ?_ (post_is rfl)
            kernel_rfl
          · intro vals w1 hB _ hd
            clear hd
            exact one_not (by kernel_rfl) (post_is rfl)
          · intro vals w1 hB _ hd
            clear hd
            exact one_not (by kernel_rfl) (post_is rfl)
          · intro vals w1 hB _ hd
            clear hd
            exact one_not (by kernel_rfl) (post_is rfl)
          · intro vals w1 hB _ hd
            clear hd
            refine one_value (v := Value.bool true) rfl ?_ (post_is rfl)
            kernel_rfl
          · intro vals w1 hB _ hd
            clear hd
            refine one_value (v := Value.slice A0 a.length c0) rfl ?_ (post_is rfl)
            kernel_rfl
          · intro vals w1 hB _ hd
            clear hd
            refine one_value (v := Value.string ⟨a.toArray⟩) rfl ?_ (post_is rfl)
            have hs := run_string (c := c0) (HA.out.past hB) rfl; simp only [fillT, Tell.is, Tell.draws, Act.put, List.setIfInBounds_toArray, List.set_cons_zero, List.set_cons_succ]; go_simp
          · intro vals w1 hB _ hd
            clear hd
            refine one_value (v := Value.slice A1 b.length c1) rfl ?_ (post_is rfl)
            kernel_rfl
          · intro vals w1 hB _ hd
            clear hd
            refine one_value (v := Value.string ⟨b.toArray⟩) rfl ?_ (post_is rfl)
            have hs := run_string (c := c1) (HB.out.past hB) rfl; simp only [fillT, Tell.is, Tell.draws, Act.put, List.setIfInBounds_toArray, List.set_cons_zero, List.set_cons_succ]; go_simp
          · intro vals w1 hB _ hd
            clear hd
            refine one_value (v := Value.bool true) rfl ?_ (post_is rfl)
            have hn := HN.out; simp only [fillT, Tell.is, Tell.draws, Act.put, List.setIfInBounds_toArray, List.set_cons_zero, List.set_cons_succ]; go_simp
          · intro vals w1 hB _ hd
            clear hd
            refine one_value (v := Value.bool true) rfl ?_ (post_is rfl)
            kernel_rfl
          · intro vals w1 hB _ hd
            clear hd
            refine one_value (v := Value.bool true) rfl ?_ (post_is rfl)
            kernel_rfl
          · intro vals w1 hB _ hd
            clear hd
            refine one_calls_g (f := 9) (args := #[]) (w1 := w1) (by kernel_rfl) ?_ ?_
            · kernel_rfl
            refine (awake2 w1).mono ?_
            rintro e1 w2 ⟨rfl, hw⟩
            exact ⟨_, rfl, post_draws rfl hw⟩
          · intro vals w1 hB _ hd
            clear hd
            refine one_value (v := Value.bool true) rfl ?_ (post_is rfl)
            kernel_rfl
          · intro vals w1 hB _ hd
            clear hd
            refine one_value (v := Value.bool true) rfl ?_ (post_is rfl)
            kernel_rfl
          intro vals w1 hB _ hr
          simp only [fillT, Tell.is, Tell.draws, Act.put, List.setIfInBounds_toArray, List.set_cons_zero, List.set_cons_succ]
          go_wp2
          go_ret
          exact ⟨rfl, hB⟩
        · go_wp2_with fail
          have hne : a ≠ b := by
            intro e
            have h := HX.out
            rw [e, less_self] at h
            cases h
          have HN : Kept ((a == b) = false) := ⟨by simpa using hne⟩
          clear hne
          refine region_tell (w.heap.size) (G := fun _ => True) (ts := [
              .is (.slice A0 a.length c0),
              .is (.slice A1 b.length c1),
              .is (.bool true),
              .is (.bool true),
              .is (undef),
              .is (undef),
              .is (undef),
              .is (.bool true),
              .is (.slice A0 a.length c0),
              .is (.string ⟨a.toArray⟩),
              .is (.slice A1 b.length c1),
              .is (.string ⟨b.toArray⟩),
              .is (.bool true),
              .is (.bool true),
              .is (.bool true),
              .draws (.bool true),
              .is (.bool true),
              .is (.bool true)]) (fin := []) (cs := []) (by kernel_rfl) rfl (by kernel_rfl) (by kernel_rfl) ⟨trivial, trivial, trivial, trivial, trivial, trivial, trivial, trivial, trivial, trivial, trivial, trivial, trivial, trivial, trivial, trivial, trivial, trivial, trivial⟩ (fun _ _ _ _ => trivial) (by simp) (by simp) trivial
            ⟨?_, ?_, ?_, ?_, ?_, ?_, ?_, ?_, ?_, ?_, ?_, ?_, ?_, ?_, ?_, ?_, ?_, ?_, trivial⟩ ?_
          · intro vals w1 hB _ hd
            clear hd
            refine one_value (v := Value.slice A0 a.length c0) rfl ?_ (post_is rfl)
            kernel_rfl
          · intro vals w1 hB _ hd
            clear hd
            refine one_value (v := Value.slice A1 b.length c1) rfl ?_ (post_is rfl)
            kernel_rfl
          · intro vals w1 hB _ hd
            clear hd
            refine one_calls (f := 13) (args := #[.slice A0 a.length c0, .slice A1 b.length c1]) (w1 := w1) rfl ?_ ?_
            · kernel_rfl
            refine (code_less A0 A1 _ _ c0 c1 a b w1 rfl rfl (HA.out.past hB) (HB.out.past hB)).mono ?_
            rintro e1 w2 ⟨rfl, hw⟩
            rw [HX.out, hw]
            exact ⟨_, rfl, post_is rfl⟩
          · intro vals w1 hB _ hd
            clear hd
            refine one_value (v := Value.bool true) rfl ?_ (post_is rfl)
            kernel_rfl
          · intro vals w1 hB _ hd
            clear hd
            exact one_not (by kernel_rfl) (post_is rfl)
          · intro vals w1 hB _ hd
            clear hd
            exact one_not (by kernel_rfl) (post_is rfl)
          · intro vals w1 hB _ hd
            clear hd
            exact one_not (by kernel_rfl) (post_is rfl)
          · intro vals w1 hB _ hd
            clear hd
            refine one_value (v := Value.bool true) rfl ?_ (post_is rfl)
            kernel_rfl
          · intro vals w1 hB _ hd
            clear hd
            refine one_value (v := Value.slice A0 a.length c0) rfl ?_ (post_is rfl)
            kernel_rfl
          · intro vals w1 hB _ hd
            clear hd
            refine one_value (v := Value.string ⟨a.toArray⟩) rfl ?_ (post_is rfl)
            have hs := run_string (c := c0) (HA.out.past hB) rfl; simp only [fillT, Tell.is, Tell.draws, Act.put, List.setIfInBounds_toArray, List.set_cons_zero, List.set_cons_succ]; go_simp
          · intro vals w1 hB _ hd
            clear hd
            refine one_value (v := Value.slice A1 b.length c1) rfl ?_ (post_is rfl)
            kernel_rfl
          · intro vals w1 hB _ hd
            clear hd
            refine one_value (v := Value.string ⟨b.toArray⟩) rfl ?_ (post_is rfl)
            have hs := run_string (c := c1) (HB.out.past hB) rfl; simp only [fillT, Tell.is, Tell.draws, Act.put, List.setIfInBounds_toArray, List.set_cons_zero, List.set_cons_succ]; go_simp
          · intro vals w1 hB _ hd
            clear hd
            refine one_value (v := Value.bool true) rfl ?_ (post_is rfl)
            have hn := HN.out; simp only [fillT, Tell.is, Tell.draws, Act.put, List.setIfInBounds_toArray, List.set_cons_zero, List.set_cons_succ]; go_simp
          · intro vals w1 hB _ hd
            clear hd
            refine one_value (v := Value.bool true) rfl ?_ (post_is rfl)
            kernel_rfl
          · intro vals w1 hB _ hd
            clear hd
            refine one_value (v := Value.bool true) rfl ?_ (post_is rfl)
            kernel_rfl
          · intro vals w1 hB _ hd
            clear hd
            refine one_calls_g (f := 9) (args := #[]) (w1 := w1) (by kernel_rfl) ?_ ?_
            · kernel_rfl
            refine (awake2 w1).mono ?_
            rintro e1 w2 ⟨rfl, hw⟩
            exact ⟨_, rfl, post_draws rfl hw⟩
          · intro vals w1 hB _ hd
            clear hd
            refine one_value (v := Value.bool true) rfl ?_ (post_is rfl)
            kernel_rfl
          · intro vals w1 hB _ hd
            clear hd
            refine one_value (v := Value.bool true) rfl ?_ (post_is rfl)
            kernel_rfl
          intro vals w1 hB _ hr
          simp only [fillT, Tell.is, Tell.draws, Act.put, List.setIfInBounds_toArray, List.set_cons_zero, List.set_cons_succ]
          go_wp2
          go_ret
          exact ⟨rfl, hB⟩
      | true =>
        have HBD := Kept.mk hy
        have HAD := Kept.mk (less_trans HX.out hy)
        clear hy
        go_enter Try.func5, Try.ntmps5
        go_wp2_with fail
        refine (code_less A0 A1 _ _ c0 c1 a b _ rfl rfl HA.out HB.out).mono ?_
        rintro en w1 ⟨rfl, hw⟩
        have hw1 := hw.symm
        subst hw1
        clear hw
        rw [HX.out]
        go_wp2_with fail
        refine (code_less A1 A2 _ _ c1 c2 b d _ rfl rfl HB.out HD.out).mono ?_
        rintro en w1 ⟨rfl, hw⟩
        have hw1 := hw.symm
        subst hw1
        clear hw
        rw [HBD.out]
        go_wp2_with fail
        refine (code_less A0 A2 _ _ c0 c2 a d _ rfl rfl HA.out HD.out).mono ?_
        rintro en w1 ⟨rfl, hw⟩
        have hw1 := hw.symm
        subst hw1
        clear hw
        rw [HAD.out]
        go_wp2_with fail
        refine (code_less A0 A0 _ _ c0 c0 a a _ rfl rfl HA.out HA.out).mono ?_
        rintro en w1 ⟨rfl, hw⟩
        have hw1 := hw.symm
        subst hw1
        clear hw
        rw [HAA.out]
        have hl0 : ¬ b.length < a.length := fun h => by have := less_long h; rw [HX.out] at this; cases this
        have hl1 : ¬ (b.length : Int) < a.length := by omega
        clear hl0
        by_cases hl2 : (a.length : Int) < b.length
        · go_wp2_with fail
          refine (code_less A0 A1 _ _ c0 c1 a b _ rfl rfl HA.out HB.out).mono ?_
          rintro en w1 ⟨rfl, hw⟩
          have hw1 := hw.symm
          subst hw1
          clear hw
          rw [HX.out]
          go_wp2_with fail
          have hne : a ≠ b := by
            intro e
            have h := HX.out
            rw [e, less_self] at h
            cases h
          have HN : Kept ((a == b) = false) := ⟨by simpa using hne⟩
          clear hne
          refine region_tell (w.heap.size) (G := fun _ => True) (ts := [
              .is (.slice A0 a.length c0),
              .is (.slice A1 b.length c1),
              .is (.bool true),
              .is (.bool true),
              .is (undef),
              .is (undef),
              .is (undef),
              .is (.bool true),
              .is (.slice A0 a.length c0),
              .is (.string ⟨a.toArray⟩),
              .is (.slice A1 b.length c1),
              .is (.string ⟨b.toArray⟩),
              .is (.bool true),
              .is (.bool true),
              .is (.bool true),
              .draws (.bool true),
              .is (.bool true),
              .is (.bool true)]) (fin := []) (cs := []) (by kernel_rfl) rfl (by kernel_rfl) (by kernel_rfl) ⟨trivial, trivial, trivial, trivial, trivial, trivial, trivial, trivial, trivial, trivial, trivial, trivial, trivial, trivial, trivial, trivial, trivial, trivial, trivial⟩ (fun _ _ _ _ => trivial) (by simp) (by simp) trivial
            ⟨?_, ?_, ?_, ?_, ?_, ?_, ?_, ?_, ?_, ?_, ?_, ?_, ?_, ?_, ?_, ?_, ?_, ?_, trivial⟩ ?_
          · intro vals w1 hB _ hd
            clear hd
            refine one_value (v := Value.slice A0 a.length c0) rfl ?_ (post_is rfl)
            kernel_rfl
          · intro vals w1 hB _ hd
            clear hd
            refine one_value (v := Value.slice A1 b.length c1) rfl ?_ (post_is rfl)
            kernel_rfl
          · intro vals w1 hB _ hd
            clear hd
            refine one_calls (f := 13) (args := #[.slice A0 a.length c0, .slice A1 b.length c1]) (w1 := w1) rfl ?_ ?_
            · kernel_rfl
            refine (code_less A0 A1 _ _ c0 c1 a b w1 rfl rfl (HA.out.past hB) (HB.out.past hB)).mono ?_
            rintro e1 w2 ⟨rfl, hw⟩
            rw [HX.out, hw]
            exact ⟨_, rfl, post_is rfl⟩
          · intro vals w1 hB _ hd
            clear hd
            refine one_value (v := Value.bool true) rfl ?_ (post_is rfl)
            kernel_rfl
          · intro vals w1 hB _ hd
            clear hd
            exact one_not (by kernel_rfl) (post_is rfl)
          · intro vals w1 hB _ hd
            clear hd
            exact one_not (by kernel_rfl) (post_is rfl)
          · intro vals w1 hB _ hd
            clear hd
            exact one_not (by kernel_rfl) (post_is rfl)
          · intro vals w1 hB _ hd
            clear hd
            refine one_value (v := Value.bool true) rfl ?_ (post_is rfl)
            kernel_rfl
          · intro vals w1 hB _ hd
            clear hd
            refine one_value (v := Value.slice A0 a.length c0) rfl ?_ (post_is rfl)
            kernel_rfl
          · intro vals w1 hB _ hd
            clear hd
            refine one_value (v := Value.string ⟨a.toArray⟩) rfl ?_ (post_is rfl)
            have hs := run_string (c := c0) (HA.out.past hB) rfl; simp only [fillT, Tell.is, Tell.draws, Act.put, List.setIfInBounds_toArray, List.set_cons_zero, List.set_cons_succ]; go_simp
          · intro vals w1 hB _ hd
            clear hd
            refine one_value (v := Value.slice A1 b.length c1) rfl ?_ (post_is rfl)
            kernel_rfl
          · intro vals w1 hB _ hd
            clear hd
            refine one_value (v := Value.string ⟨b.toArray⟩) rfl ?_ (post_is rfl)
            have hs := run_string (c := c1) (HB.out.past hB) rfl; simp only [fillT, Tell.is, Tell.draws, Act.put, List.setIfInBounds_toArray, List.set_cons_zero, List.set_cons_succ]; go_simp
          · intro vals w1 hB _ hd
            clear hd
            refine one_value (v := Value.bool true) rfl ?_ (post_is rfl)
            have hn := HN.out; simp only [fillT, Tell.is, Tell.draws, Act.put, List.setIfInBounds_toArray, List.set_cons_zero, List.set_cons_succ]; go_simp
          · intro vals w1 hB _ hd
            clear hd
            refine one_value (v := Value.bool true) rfl ?_ (post_is rfl)
            kernel_rfl
          · intro vals w1 hB _ hd
            clear hd
            refine one_value (v := Value.bool true) rfl ?_ (post_is rfl)
            kernel_rfl
          · intro vals w1 hB _ hd
            clear hd
            refine one_calls_g (f := 9) (args := #[]) (w1 := w1) (by kernel_rfl) ?_ ?_
            · kernel_rfl
            refine (awake2 w1).mono ?_
            rintro e1 w2 ⟨rfl, hw⟩
            exact ⟨_, rfl, post_draws rfl hw⟩
          · intro vals w1 hB _ hd
            clear hd
            refine one_value (v := Value.bool true) rfl ?_ (post_is rfl)
            kernel_rfl
          · intro vals w1 hB _ hd
            clear hd
            refine one_value (v := Value.bool true) rfl ?_ (post_is rfl)
            kernel_rfl
          intro vals w1 hB _ hr
          simp only [fillT, Tell.is, Tell.draws, Act.put, List.setIfInBounds_toArray, List.set_cons_zero, List.set_cons_succ]
          go_wp2
          go_ret
          exact ⟨rfl, hB⟩
        · go_wp2_with fail
          have hne : a ≠ b := by
            intro e
            have h := HX.out
            rw [e, less_self] at h
            cases h
          have HN : Kept ((a == b) = false) := ⟨by simpa using hne⟩
          clear hne
          refine region_tell (w.heap.size) (G := fun _ => True) (ts := [
              .is (.slice A0 a.length c0),
              .is (.slice A1 b.length c1),
              .is (.bool true),
              .is (.bool true),
              .is (undef),
              .is (undef),
              .is (undef),
              .is (.bool true),
              .is (.slice A0 a.length c0),
              .is (.string ⟨a.toArray⟩),
              .is (.slice A1 b.length c1),
              .is (.string ⟨b.toArray⟩),
              .is (.bool true),
              .is (.bool true),
              .is (.bool true),
              .draws (.bool true),
              .is (.bool true),
              .is (.bool true)]) (fin := []) (cs := []) (by kernel_rfl) rfl (by kernel_rfl) (by kernel_rfl) ⟨trivial, trivial, trivial, trivial, trivial, trivial, trivial, trivial, trivial, trivial, trivial, trivial, trivial, trivial, trivial, trivial, trivial, trivial, trivial⟩ (fun _ _ _ _ => trivial) (by simp) (by simp) trivial
            ⟨?_, ?_, ?_, ?_, ?_, ?_, ?_, ?_, ?_, ?_, ?_, ?_, ?_, ?_, ?_, ?_, ?_, ?_, trivial⟩ ?_
          · intro vals w1 hB _ hd
            clear hd
            refine one_value (v := Value.slice A0 a.length c0) rfl ?_ (post_is rfl)
            kernel_rfl
          · intro vals w1 hB _ hd
            clear hd
            refine one_value (v := Value.slice A1 b.length c1) rfl ?_ (post_is rfl)
            kernel_rfl
          · intro vals w1 hB _ hd
            clear hd
            refine one_calls (f := 13) (args := #[.slice A0 a.length c0, .slice A1 b.length c1]) (w1 := w1) rfl ?_ ?_
            · kernel_rfl
            refine (code_less A0 A1 _ _ c0 c1 a b w1 rfl rfl (HA.out.past hB) (HB.out.past hB)).mono ?_
            rintro e1 w2 ⟨rfl, hw⟩
            rw [HX.out, hw]
            exact ⟨_, rfl, post_is rfl⟩
          · intro vals w1 hB _ hd
            clear hd
            refine one_value (v := Value.bool true) rfl ?_ (post_is rfl)
            kernel_rfl
          · intro vals w1 hB _ hd
            clear hd
            exact one_not (by kernel_rfl) (post_is rfl)
          · intro vals w1 hB _ hd
            clear hd
            exact one_not (by kernel_rfl) (post_is rfl)
          · intro vals w1 hB _ hd
            clear hd
            exact one_not (by kernel_rfl) (post_is rfl)
          · intro vals w1 hB _ hd
            clear hd
            refine one_value (v := Value.bool true) rfl ?_ (post_is rfl)
            kernel_rfl
          · intro vals w1 hB _ hd
            clear hd
            refine one_value (v := Value.slice A0 a.length c0) rfl ?_ (post_is rfl)
            kernel_rfl
          · intro vals w1 hB _ hd
            clear hd
            refine one_value (v := Value.string ⟨a.toArray⟩) rfl ?_ (post_is rfl)
            have hs := run_string (c := c0) (HA.out.past hB) rfl; simp only [fillT, Tell.is, Tell.draws, Act.put, List.setIfInBounds_toArray, List.set_cons_zero, List.set_cons_succ]; go_simp
          · intro vals w1 hB _ hd
            clear hd
            refine one_value (v := Value.slice A1 b.length c1) rfl ?_ (post_is rfl)
            kernel_rfl
          · intro vals w1 hB _ hd
            clear hd
            refine one_value (v := Value.string ⟨b.toArray⟩) rfl ?_ (post_is rfl)
            have hs := run_string (c := c1) (HB.out.past hB) rfl; simp only [fillT, Tell.is, Tell.draws, Act.put, List.setIfInBounds_toArray, List.set_cons_zero, List.set_cons_succ]; go_simp
          · intro vals w1 hB _ hd
            clear hd
            refine one_value (v := Value.bool true) rfl ?_ (post_is rfl)
            have hn := HN.out; simp only [fillT, Tell.is, Tell.draws, Act.put, List.setIfInBounds_toArray, List.set_cons_zero, List.set_cons_succ]; go_simp
          · intro vals w1 hB _ hd
            clear hd
            refine one_value (v := Value.bool true) rfl ?_ (post_is rfl)
            kernel_rfl
          · intro vals w1 hB _ hd
            clear hd
            refine one_value (v := Value.bool true) rfl ?_ (post_is rfl)
            kernel_rfl
          · intro vals w1 hB _ hd
            clear hd
            refine one_calls_g (f := 9) (args := #[]) (w1 := w1) (by kernel_rfl) ?_ ?_
            · kernel_rfl
            refine (awake2 w1).mono ?_
            rintro e1 w2 ⟨rfl, hw⟩
            exact ⟨_, rfl, post_draws rfl hw⟩
          · intro vals w1 hB _ hd
            clear hd
            refine one_value (v := Value.bool true) rfl ?_ (post_is rfl)
            kernel_rfl
          · intro vals w1 hB _ hd
            clear hd
            refine one_value (v := Value.bool true) rfl ?_ (post_is rfl)
            kernel_rfl
          intro vals w1 hB _ hr
          simp only [fillT, Tell.is, Tell.draws, Act.put, List.setIfInBounds_toArray, List.set_cons_zero, List.set_cons_succ]
          go_wp2
          go_ret
          exact ⟨rfl, hB⟩
end Go.Proofs.Ytlkejledgghjnaa
