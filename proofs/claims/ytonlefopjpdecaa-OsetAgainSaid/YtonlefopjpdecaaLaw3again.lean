/- The law OsetAgain: the same keys in another order have the same ranks. -/
import Derived.Test.YtonlefopjpdecaaSet2
import Derived.Test.YtonlefopjpdecaaOpenR
namespace Go.Proofs.Ytonlefopjpdecaa
open Go.RowKit Go.Maps

theorem getElem_rev_take {l : List (List UInt8)} {n i : Nat} (hn : n ≤ l.length) (hi : i < n) : ((l.take n).reverse)[i]'(by rw [List.length_reverse, List.length_take]; omega) = l[n - 1 - i]'(by omega) := by
  rw [List.getElem_reverse, List.getElem_take]
  congr 1
  rw [List.length_take]
  omega
theorem at_key_eq {w : World} {B S M : Nat} {v : Value} {most : Nat} {L : List (List UInt8)} (h : SetAt w B S M v most L) (i : Nat) (hi : i < L.length) (s : List UInt8) (he : L[i] = s) :
    Calls Try.prog 11 #[.pointer (some ⟨S, 0, none⟩), .int .i64 (i : Nat)] w fun en w' => ∃ c, en = .returned (.tuple #[.slice (some ⟨w.heap.size, 0, none⟩) s.length c, .bool true]) ∧ Copy w' w.heap.size w.heap.size c s ∧ Below w.heap.size w w' := by
  subst he
  exact at_key h i hi
set_option maxRecDepth 100000 in
set_option maxHeartbeats 8000000 in
theorem again_walk (A : Option Addr) (c : Nat) (l : List (List UInt8)) (w : World) (_hc : l.length ≤ c) (_hm : c ≤ maxLen) (hr : RdR w A l) :
    Calls Try.prog 5 #[.slice A l.length c] w (SaysTrue w) := by
  have HR := Kept.mk hr
  unfold maxLen at _hm
  clear hr
  obtain ⟨N, hN, hN1, hN2⟩ : ∃ N : Nat, min (l.length : Int) 40 = (N : Int) ∧ N ≤ l.length ∧ N ≤ 40 := ⟨min l.length 40, by omega, by omega, by omega⟩
  go_enter Try.func5, Try.ntmps5
  go_wp2_with fail
  refine (new_set 100 w).mono ?_
  rintro en w1 ⟨rfl, h1, b1⟩
  have H1 : Kept (SetAt w1 w.heap.size (w.heap.size + 1) w.heap.size (.slice none 0 0) 100 []) := ⟨h1⟩
  have B1 := Kept.mk b1
  have SZ1 : Kept (w.heap.size + 2 ≤ w1.heap.size) := ⟨by have := h1.lt; omega⟩
  clear h1 b1
  go_wp2_with fail
  refine (new_set 100 w1).mono ?_
  rintro en w2 ⟨rfl, h2, b2⟩
  have HA2 := Kept.mk (H1.out.past b2)
  have HB2 : Kept (SetAt w2 w.heap.size (w1.heap.size + 1) w1.heap.size (.slice none 0 0) 100 []) := ⟨SetAt.lower h2 B1.out.size⟩
  have B2 := Kept.mk (B1.out.trans (b2.mono B1.out.size))
  clear h2 b2 H1
  go_wp2_with fail
  go_loopw [6] (fun iv wr => ∃ (i : Nat) (va vb : Value), i ≤ N ∧ iv = .int .i64 i ∧ SetAt wr w.heap.size (w.heap.size + 1) w.heap.size va 100 (addAll [] (l.take i)) ∧ SetAt wr w.heap.size (w1.heap.size + 1) w1.heap.size vb 100 (addAll [] ((l.take N).reverse.take i)) ∧
    Kept (∀ g, va.ownBlock = some g → vb.ownBlock ≠ some g) ∧ Below w.heap.size w wr) (fun iv _ => N - (intOf iv).toNat)
  case atStart => exact ⟨0, _, _, by omega, rfl, by simpa [addAll] using HA2.out, by simpa [addAll] using HB2.out, ⟨by simp [Value.ownBlock]⟩, B2.out⟩
  case round =>
    obtain ⟨i, va, vb, hi, rfl, ha, hb, hdis, hbel⟩ := hrel
    have HA := Kept.mk ha
    have HB := Kept.mk hb
    have BB := Kept.mk hbel
    clear ha hb hbel
    by_cases hlt : i < N
    · have hil : i < l.length := by omega
      obtain ⟨b, o, A1, c1, rfl, hbl, q0, hc1, hm1, hr1⟩ := (HR.out.past BB.out) i hil
      have RK := Kept.mk hr1
      by_cases h100 : 100 < l[i].length
      · have h100' : (100 : Int) < (l[i].length : Int) := by omega
        go_wp2_with fail
        refine (awake3 _).mono ?_
        rintro en w4 ⟨rfl, b4⟩
        have B4 := Kept.mk (BB.out.trans (b4.mono BB.out.size))
        clear b4
        go_wp2_with fail
        go_ret
        exact ⟨rfl, B4.out⟩
      · have h100' : (l[i].length : Int) ≤ 100 := by omega
        have hla := length_addAll (l.take i) []
        rw [List.length_take, List.length_nil] at hla
        have hlb := length_addAll ((l.take N).reverse.take i) []
        rw [List.length_take, List.length_reverse, List.length_take, List.length_nil] at hlb
        go_wp2_with fail
        refine (add_any HA.out A1 _ c1 l[i] rfl RK.out (by unfold maxLen; omega) (by omega)).mono ?_
        rintro en w3 ⟨p, fr, va', rfl, ha3, t3, ho3, -, -⟩
        have hb3 := HA.out.beside HB.out t3 (by have := SZ1.out; omega) (by have := SZ1.out; omega) (fun g hg hv => hdis.out g hv hg)
        rw [← addAll_take_succ hil] at ha3
        have HA3 := Kept.mk ha3
        have HB3 := Kept.mk hb3
        have BB3 := Kept.mk (BB.out.trans (Touch.below HA.out t3 BB.out.size))
        have hdis3 : Kept (∀ g, va'.ownBlock = some g → vb.ownBlock ≠ some g) := ⟨fun g hg hv => by
          rcases ho3 with e | ⟨g', e, hge⟩
          · exact hdis.out g (e ▸ hg) hv
          · rw [e] at hg
            injection hg with hg
            have := (World.ownsRow.lt HB.out.row g hv).2
            omega⟩
        have hj : N - 1 - i < l.length := by omega
        obtain ⟨b', o', A2, c2, hb'e, hbl2, q2, hc2, hm2, hr2⟩ := (HR.out.past BB3.out) (N - 1 - i) hj
        cases hb'e
        have RK2 := Kept.mk hr2
        have wn : IntKind.i64.wrap ((N : Int) - 1) = (N : Int) - 1 := IntWalk.i64_in _ (by omega)
        have wn2 : IntKind.i64.wrap ((N : Int) - 1 - (i : Int)) = ((N - 1 - i : Nat) : Int) := by rw [IntWalk.i64_in _ (by omega)]; omega
        have hix : ((N - 1 - i : Nat) : Int) < (l.length : Int) := by omega
        clear ha3 hb3 t3 ho3 hr1 hr2 q0 h100 h100' HA HB BB
        go_wp2_with fail
        refine (add_any HB3.out A2 _ c2 l[N - 1 - i] rfl RK2.out (by omega) (by omega)).mono ?_
        rintro en w4 ⟨p, fr, vb', rfl, hb4, t4, ho4, -, -⟩
        have ha4 := HB3.out.beside HA3.out t4 (by have := SZ1.out; omega) (by have := SZ1.out; omega) (fun g hg hv => hdis3.out g hg hv)
        rw [← getElem_rev_take hN1 hlt, ← addAll_take_succ (by rw [List.length_reverse, List.length_take]; omega)] at hb4
        have HA4 := Kept.mk ha4
        have HB4 := Kept.mk hb4
        have BB4 := Kept.mk (BB3.out.trans (Touch.below HB3.out t4 BB3.out.size))
        have hdis4 : Kept (∀ g, va'.ownBlock = some g → vb'.ownBlock ≠ some g) := ⟨fun g hg hv => by
          rcases ho4 with e | ⟨g', e, hge⟩
          · exact hdis3.out g hg (e ▸ hv)
          · rw [e] at hv
            injection hv with hv
            have := (World.ownsRow.lt HA3.out.row g hg).2
            omega⟩
        clear ha4 hb4 t4 ho4 HA3 HB3 BB3 hdis3 hdis
        go_wp2_with fail
        go_roundw
        case rel => exact ⟨i + 1, va', vb', by omega, by go_num, HA4.out, HB4.out, hdis4, BB4.out⟩
        case measure => simp [intOf]; omega
    · have hiN : i = N := by omega
      subst hiN
      have hrev : (l.take i).reverse.take i = (l.take i).reverse := List.take_of_length_le (by rw [List.length_reverse, List.length_take]; omega)
      rw [hrev] at HB
      obtain ⟨X, hX⟩ : ∃ X, X = addAll [] (l.take i) := ⟨_, rfl⟩
      obtain ⟨Y, hY⟩ : ∃ Y, Y = addAll [] (l.take i).reverse := ⟨_, rfl⟩
      have hXY : X.Perm Y := by rw [hX, hY]; exact addAll_perm (fun t => by simp)
      have HINX : Kept (∀ (k : Nat) (hk : k < i), l[k]'(by omega) ∈ X) := ⟨fun k hk => by rw [hX, mem_addAll]; exact .inr (List.mem_take_iff_getElem.2 ⟨k, by omega, rfl⟩)⟩
      have HXY := Kept.mk hXY
      have hlen := hXY.length_eq
      rw [← hX] at HA
      rw [← hY] at HB
      have hneq : ((X.length : Int) != (X.length : Int)) = false := by simp
      have HLEN := Kept.mk hlen
      clear hX hY hXY hrev hlen hdis HA2 HB2 B2
      go_wp2_with fail
      refine (len_set HA.out).mono ?_
      rintro en w2' ⟨rfl, hw⟩
      have hw2 := hw.symm
      subst hw2
      clear hw
      go_wp2_with fail
      refine (len_set HB.out).mono ?_
      rintro en w2' ⟨rfl, hw⟩
      have hw2 := hw.symm
      subst hw2
      clear hw
      rw [← HLEN.out]
      go_wp2_with fail
      go_loopw [7] (fun kv wr2 => ∃ k : Nat, k ≤ i ∧ kv = .int .i64 k ∧ SetAt wr2 w.heap.size (w.heap.size + 1) w.heap.size va 100 X ∧ SetAt wr2 w.heap.size (w1.heap.size + 1) w1.heap.size vb 100 Y ∧ Below w.heap.size w wr2) (fun kv _ => i - (intOf kv).toNat)
      case atStart => exact ⟨0, by omega, rfl, HA.out, HB.out, BB.out⟩
      case round =>
        obtain ⟨k, hk, rfl, ha, hb, hbel⟩ := hrel
        have HA3 := Kept.mk ha
        have HB3 := Kept.mk hb
        have BB3 := Kept.mk hbel
        clear ha hb hbel HA HB BB
        by_cases hlt2 : k < i
        · have hkl : k < l.length := by omega
          obtain ⟨b, o, A1, c1, rfl, hbl0, q0, hc1, hm1, hr1⟩ := (HR.out.past BB3.out) k hkl
          have RK0 := Kept.mk hr1
          have hsm : l[k].length ≤ maxLen := Nat.le_trans hc1 hm1
          obtain ⟨hp, hpe⟩ := place_get (HINX.out k hlt2)
          have HP := Kept.mk hpe
          have hltk : (k : Int) < (l.length : Int) := by omega
          clear hr1 hpe
          go_wp2_with fail
          refine (add_there HA3.out A1 _ c1 l[k] rfl RK0.out hsm (HINX.out k hlt2)).mono ?_
          rintro en w4 ⟨rfl, kd, hw⟩
          have ha4 : SetAt w4 w.heap.size (w.heap.size + 1) w.heap.size va 100 X := by rw [hw]; exact HA3.out.drewN kd
          have hb4 : SetAt w4 w.heap.size (w1.heap.size + 1) w1.heap.size vb 100 Y := by rw [hw]; exact HB3.out.drewN kd
          have hbb4 : Below w.heap.size w w4 := by rw [hw]; exact below_drewN BB3.out kd
          have hr4 : RdB w4 A1 l[k] := by rw [hw]; exact Reads.drewN RK0.out kd
          have hq4 : w4.cell? ⟨b, o + k, none⟩ = some (.slice A1 l[k].length c1) := by rw [hw]; exact q0
          have hl4 : b < w4.heap.size := by rw [hw]; exact hbl0
          have HA4 := Kept.mk ha4
          have HB4 := Kept.mk hb4
          have BB4 := Kept.mk hbb4
          have R4 := Kept.mk hr4
          have Q4 := Kept.mk hq4
          have L4 := Kept.mk hl4
          clear ha4 hb4 hbb4 hr4 hq4 hl4 hw q0 hbl0 HA3 HB3 BB3 RK0
          obtain ⟨p, hpp⟩ : ∃ p, place X l[k] = p := ⟨_, rfl⟩
          have hp' : p < X.length := hpp ▸ hp
          have HPE : Kept (X[p]'hp' = l[k]) := ⟨by subst hpp; exact HP.out⟩
          rw [hpp]
          clear hp hpp HP
          go_wp2_with fail
          refine (at_key_eq HA4.out p hp' l[k] HPE.out).mono ?_
          rintro en w5 ⟨c5, rfl, hcp, b5⟩
          have HA5 := Kept.mk (HA4.out.past b5)
          have HB5 := Kept.mk (HB4.out.past b5)
          have BB5 := Kept.mk (BB4.out.trans (b5.mono BB4.out.size))
          have RC5 : Kept (RdB w5 (some ⟨w4.heap.size, 0, none⟩) l[k]) := ⟨hcp.reads⟩
          have RK4 := Kept.mk (R4.out.past b5)
          have q4 : w5.cell? ⟨b, o + k, none⟩ = some (.slice A1 l[k].length c1) := (b5.cell (p := ⟨b, o + k, none⟩) L4.out).trans Q4.out
          have hbl : b < w5.heap.size := Nat.lt_of_lt_of_le L4.out b5.size
          obtain ⟨RK, hRK⟩ : ∃ RK, rankOf X l[k] = RK := ⟨_, rfl⟩
          have HRA := Kept.mk hRK
          have HRB : Kept (rankOf Y l[k] = RK) := ⟨by rw [← rank_perm HXY.out]; exact hRK⟩
          have hinb : l[k] ∈ Y := HXY.out.mem_iff.1 (HINX.out k hlt2)
          clear b5 hcp hRK HA4 HB4 BB4 R4 Q4 L4
          go_upto_region 19 with fail
          refine region_tell (w5.heap.size) (G := fun _ => True) (ts := [
              .is (.bool false),
              .is (.bool false),
              .is (.bool true),
              .is (.bool false),
              .is (.bool false),
              .is (.bool false),
              .is (.bool true),
              .is (.bool false),
              .is (.bool false),
              .is (.bool false),
              .is (.slice (some ⟨w4.heap.size, 0, none⟩) l[k].length c5),
              .is (.string ⟨l[k].toArray⟩),
              .is (.slice (some ⟨b, o, none⟩) l.length c),
              .is (.int .i64 (k : Int)),
              .is (.pointer (some ⟨b, o + k, none⟩)),
              .is (.slice A1 l[k].length c1),
              .is (.string ⟨l[k].toArray⟩),
              .is (.bool false),
              .is (.bool false),
              .is (.bool false),
              .is (.pointer (some ⟨w.heap.size + 1, 0, none⟩)),
              .is (.slice (some ⟨b, o, none⟩) l.length c),
              .is (.int .i64 (k : Int)),
              .is (.pointer (some ⟨b, o + k, none⟩)),
              .is (.slice A1 l[k].length c1),
              .draws (.int .i64 (RK : Nat)),
              .is (.pointer (some ⟨w1.heap.size + 1, 0, none⟩)),
              .is (.slice (some ⟨b, o, none⟩) l.length c),
              .is (.int .i64 (k : Int)),
              .is (.pointer (some ⟨b, o + k, none⟩)),
              .is (.slice A1 l[k].length c1),
              .draws (.int .i64 (RK : Nat)),
              .is (.bool false),
              .is (.bool false),
              .is (.bool false),
              .is (.pointer (some ⟨w1.heap.size + 1, 0, none⟩)),
              .is (.slice (some ⟨b, o, none⟩) l.length c),
              .is (.int .i64 (k : Int)),
              .is (.pointer (some ⟨b, o + k, none⟩)),
              .is (.slice A1 l[k].length c1),
              .draws (.bool true),
              .is (.bool false),
              .is (.bool false)]) (fin := []) (cs := []) (by kernel_rfl) rfl (by kernel_rfl) (by kernel_rfl) ⟨trivial, trivial, trivial, trivial, trivial, trivial, trivial, trivial, trivial, trivial, trivial, trivial, trivial, trivial, trivial, trivial, trivial, trivial, trivial, trivial, trivial, trivial, trivial, trivial, trivial, trivial, trivial, trivial, trivial, trivial, trivial, trivial, trivial, trivial, trivial, trivial, trivial, trivial, trivial, trivial, trivial, trivial, trivial, trivial⟩ (fun _ _ _ _ => trivial) (by simp) (by simp) trivial
            ⟨?_, ?_, ?_, ?_, ?_, ?_, ?_, ?_, ?_, ?_, ?_, ?_, ?_, ?_, ?_, ?_, ?_, ?_, ?_, ?_, ?_, ?_, ?_, ?_, ?_, ?_, ?_, ?_, ?_, ?_, ?_, ?_, ?_, ?_, ?_, ?_, ?_, ?_, ?_, ?_, ?_, ?_, ?_, trivial⟩ ?_
          · intro vals w1' hB _ hd
            clear hd
            refine one_value (v := Value.bool false) rfl ?_ (post_is rfl)
            kernel_rfl
          · intro vals w1' hB _ hd
            clear hd
            refine one_value (v := Value.bool false) rfl ?_ (post_is rfl)
            kernel_rfl
          · intro vals w1' hB _ hd
            clear hd
            refine one_value_g (v := Value.bool true) (by kernel_rfl) ?_ (post_is rfl)
            kernel_rfl
          · intro vals w1' hB _ hd
            clear hd
            refine one_value_g (v := Value.bool false) (by kernel_rfl) ?_ (post_is rfl)
            kernel_rfl
          · intro vals w1' hB _ hd
            clear hd
            refine one_value (v := Value.bool false) rfl ?_ (post_is rfl)
            kernel_rfl
          · intro vals w1' hB _ hd
            clear hd
            refine one_value (v := Value.bool false) rfl ?_ (post_is rfl)
            kernel_rfl
          · intro vals w1' hB _ hd
            clear hd
            refine one_value_g (v := Value.bool true) (by kernel_rfl) ?_ (post_is rfl)
            kernel_rfl
          · intro vals w1' hB _ hd
            clear hd
            refine one_value_g (v := Value.bool false) (by kernel_rfl) ?_ (post_is rfl)
            kernel_rfl
          · intro vals w1' hB _ hd
            clear hd
            refine one_value (v := Value.bool false) rfl ?_ (post_is rfl)
            kernel_rfl
          · intro vals w1' hB _ hd
            clear hd
            refine one_value (v := Value.bool false) rfl ?_ (post_is rfl)
            kernel_rfl
          · intro vals w1' hB _ hd
            clear hd
            refine one_value_g (v := Value.slice (some ⟨w4.heap.size, 0, none⟩) l[k].length c5) (by kernel_rfl) ?_ (post_is rfl)
            kernel_rfl
          · intro vals w1' hB _ hd
            clear hd
            refine one_value_g (v := Value.string ⟨l[k].toArray⟩) (by kernel_rfl) ?_ (post_is rfl)
            have hs := run_string (c := c5) (RC5.out.past hB) rfl; simp only [fillT, Tell.is, Tell.draws, Act.put, List.setIfInBounds_toArray, List.set_cons_zero, List.set_cons_succ]; go_simp
          · intro vals w1' hB _ hd
            clear hd
            refine one_value_g (v := Value.slice (some ⟨b, o, none⟩) l.length c) (by kernel_rfl) ?_ (post_is rfl)
            kernel_rfl
          · intro vals w1' hB _ hd
            clear hd
            refine one_value_g (v := Value.int .i64 (k : Int)) (by kernel_rfl) ?_ (post_is rfl)
            kernel_rfl
          · intro vals w1' hB _ hd
            clear hd
            refine one_value_g (v := Value.pointer (some ⟨b, o + k, none⟩)) (by kernel_rfl) ?_ (post_is rfl)
            simp only [fillT, Tell.is, Tell.draws, Act.put, List.setIfInBounds_toArray, List.set_cons_zero, List.set_cons_succ]; go_simp; try (intro h; omega)
          · intro vals w1' hB _ hd
            clear hd
            refine one_value_g (v := Value.slice A1 l[k].length c1) (by kernel_rfl) ?_ (post_is rfl)
            have hq := (hB.cell (p := ⟨b, o + k, none⟩) hbl).trans q4; simp only [fillT, Tell.is, Tell.draws, Act.put, List.setIfInBounds_toArray, List.set_cons_zero, List.set_cons_succ]; go_simp
          · intro vals w1' hB _ hd
            clear hd
            refine one_value_g (v := Value.string ⟨l[k].toArray⟩) (by kernel_rfl) ?_ (post_is rfl)
            have hs := run_string (c := c1) (RK4.out.past hB) rfl; simp only [fillT, Tell.is, Tell.draws, Act.put, List.setIfInBounds_toArray, List.set_cons_zero, List.set_cons_succ]; go_simp
          · intro vals w1' hB _ hd
            clear hd
            refine one_value_g (v := Value.bool false) (by kernel_rfl) ?_ (post_is rfl)
            simp only [fillT, Tell.is, Tell.draws, Act.put, List.setIfInBounds_toArray, List.set_cons_zero, List.set_cons_succ]; go_simp
          · intro vals w1' hB _ hd
            clear hd
            refine one_value (v := Value.bool false) rfl ?_ (post_is rfl)
            kernel_rfl
          · intro vals w1' hB _ hd
            clear hd
            refine one_value (v := Value.bool false) rfl ?_ (post_is rfl)
            kernel_rfl
          · intro vals w1' hB _ hd
            clear hd
            refine one_value_g (v := Value.pointer (some ⟨w.heap.size + 1, 0, none⟩)) (by kernel_rfl) ?_ (post_is rfl)
            kernel_rfl
          · intro vals w1' hB _ hd
            clear hd
            refine one_value_g (v := Value.slice (some ⟨b, o, none⟩) l.length c) (by kernel_rfl) ?_ (post_is rfl)
            kernel_rfl
          · intro vals w1' hB _ hd
            clear hd
            refine one_value_g (v := Value.int .i64 (k : Int)) (by kernel_rfl) ?_ (post_is rfl)
            kernel_rfl
          · intro vals w1' hB _ hd
            clear hd
            refine one_value_g (v := Value.pointer (some ⟨b, o + k, none⟩)) (by kernel_rfl) ?_ (post_is rfl)
            simp only [fillT, Tell.is, Tell.draws, Act.put, List.setIfInBounds_toArray, List.set_cons_zero, List.set_cons_succ]; go_simp; try (intro h; omega)
          · intro vals w1' hB _ hd
            clear hd
            refine one_value_g (v := Value.slice A1 l[k].length c1) (by kernel_rfl) ?_ (post_is rfl)
            have hq := (hB.cell (p := ⟨b, o + k, none⟩) hbl).trans q4; simp only [fillT, Tell.is, Tell.draws, Act.put, List.setIfInBounds_toArray, List.set_cons_zero, List.set_cons_succ]; go_simp
          · intro vals w1' hB _ hd
            clear hd
            refine one_calls_g (f := 14) (args := #[.pointer (some ⟨w.heap.size + 1, 0, none⟩), .slice A1 l[k].length c1]) (w1 := w1') (by kernel_rfl) ?_ ?_
            · kernel_rfl
            refine (rank_set (HA5.out.past hB) A1 _ c1 l[k] rfl (RK4.out.past hB)).mono ?_
            rintro e1 w2' ⟨rfl, h2⟩
            rw [HRA.out]
            exact ⟨_, rfl, post_draws rfl h2⟩
          · intro vals w1' hB _ hd
            clear hd
            refine one_value_g (v := Value.pointer (some ⟨w1.heap.size + 1, 0, none⟩)) (by kernel_rfl) ?_ (post_is rfl)
            kernel_rfl
          · intro vals w1' hB _ hd
            clear hd
            refine one_value_g (v := Value.slice (some ⟨b, o, none⟩) l.length c) (by kernel_rfl) ?_ (post_is rfl)
            kernel_rfl
          · intro vals w1' hB _ hd
            clear hd
            refine one_value_g (v := Value.int .i64 (k : Int)) (by kernel_rfl) ?_ (post_is rfl)
            kernel_rfl
          · intro vals w1' hB _ hd
            clear hd
            refine one_value_g (v := Value.pointer (some ⟨b, o + k, none⟩)) (by kernel_rfl) ?_ (post_is rfl)
            simp only [fillT, Tell.is, Tell.draws, Act.put, List.setIfInBounds_toArray, List.set_cons_zero, List.set_cons_succ]; go_simp; try (intro h; omega)
          · intro vals w1' hB _ hd
            clear hd
            refine one_value_g (v := Value.slice A1 l[k].length c1) (by kernel_rfl) ?_ (post_is rfl)
            have hq := (hB.cell (p := ⟨b, o + k, none⟩) hbl).trans q4; simp only [fillT, Tell.is, Tell.draws, Act.put, List.setIfInBounds_toArray, List.set_cons_zero, List.set_cons_succ]; go_simp
          · intro vals w1' hB _ hd
            clear hd
            refine one_calls_g (f := 14) (args := #[.pointer (some ⟨w1.heap.size + 1, 0, none⟩), .slice A1 l[k].length c1]) (w1 := w1') (by kernel_rfl) ?_ ?_
            · kernel_rfl
            refine (rank_set (HB5.out.past hB) A1 _ c1 l[k] rfl (RK4.out.past hB)).mono ?_
            rintro e1 w2' ⟨rfl, h2⟩
            rw [HRB.out]
            exact ⟨_, rfl, post_draws rfl h2⟩
          · intro vals w1' hB _ hd
            clear hd
            refine one_value_g (v := Value.bool false) (by kernel_rfl) ?_ (post_is rfl)
            simp only [fillT, Tell.is, Tell.draws, Act.put, List.setIfInBounds_toArray, List.set_cons_zero, List.set_cons_succ]; go_simp
          · intro vals w1' hB _ hd
            clear hd
            refine one_value (v := Value.bool false) rfl ?_ (post_is rfl)
            kernel_rfl
          · intro vals w1' hB _ hd
            clear hd
            refine one_value (v := Value.bool false) rfl ?_ (post_is rfl)
            kernel_rfl
          · intro vals w1' hB _ hd
            clear hd
            refine one_value_g (v := Value.pointer (some ⟨w1.heap.size + 1, 0, none⟩)) (by kernel_rfl) ?_ (post_is rfl)
            kernel_rfl
          · intro vals w1' hB _ hd
            clear hd
            refine one_value_g (v := Value.slice (some ⟨b, o, none⟩) l.length c) (by kernel_rfl) ?_ (post_is rfl)
            kernel_rfl
          · intro vals w1' hB _ hd
            clear hd
            refine one_value_g (v := Value.int .i64 (k : Int)) (by kernel_rfl) ?_ (post_is rfl)
            kernel_rfl
          · intro vals w1' hB _ hd
            clear hd
            refine one_value_g (v := Value.pointer (some ⟨b, o + k, none⟩)) (by kernel_rfl) ?_ (post_is rfl)
            simp only [fillT, Tell.is, Tell.draws, Act.put, List.setIfInBounds_toArray, List.set_cons_zero, List.set_cons_succ]; go_simp; try (intro h; omega)
          · intro vals w1' hB _ hd
            clear hd
            refine one_value_g (v := Value.slice A1 l[k].length c1) (by kernel_rfl) ?_ (post_is rfl)
            have hq := (hB.cell (p := ⟨b, o + k, none⟩) hbl).trans q4; simp only [fillT, Tell.is, Tell.draws, Act.put, List.setIfInBounds_toArray, List.set_cons_zero, List.set_cons_succ]; go_simp
          · intro vals w1' hB _ hd
            clear hd
            refine one_calls_g (f := 12) (args := #[.pointer (some ⟨w1.heap.size + 1, 0, none⟩), .slice A1 l[k].length c1]) (w1 := w1') (by kernel_rfl) ?_ ?_
            · kernel_rfl
            refine (has_key (HB5.out.past hB) A1 _ c1 l[k] rfl (RK4.out.past hB) hsm).mono ?_
            rintro e1 w2' ⟨rfl, kd, h2⟩
            rw [decide_eq_true hinb]
            exact ⟨_, rfl, post_draws rfl (by rw [h2]; exact below_drewN (Below.refl _ _) kd)⟩
          · intro vals w1' hB _ hd
            clear hd
            refine one_value_g (v := Value.bool false) (by kernel_rfl) ?_ (post_is rfl)
            kernel_rfl
          · intro vals w1' hB _ hd
            clear hd
            refine one_value (v := Value.bool false) rfl ?_ (post_is rfl)
            kernel_rfl
          intro vals w1' hB _ hr
          simp only [fillT, Tell.is, Tell.draws, Act.put, List.setIfInBounds_toArray, List.set_cons_zero, List.set_cons_succ]
          go_wp2
          go_roundw
          case rel => exact ⟨k + 1, by omega, by go_num, HA5.out.past hB, HB5.out.past hB, BB5.out.trans (hB.mono BB5.out.size)⟩
          case measure => simp [intOf]; omega
        · go_wp2_with fail
          refine (awake3 _).mono ?_
          rintro en w4 ⟨rfl, b4⟩
          have B4 := Kept.mk (BB3.out.trans (b4.mono BB3.out.size))
          clear b4
          go_wp2_with fail
          go_ret
          exact ⟨rfl, B4.out⟩
end Go.Proofs.Ytonlefopjpdecaa
