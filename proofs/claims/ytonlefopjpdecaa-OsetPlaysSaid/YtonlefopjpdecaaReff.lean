/- The document's own set: a key found, its rank. -/
import Derived.Test.YtonlefopjpdecaaRefs
namespace Go.Proofs.Ytonlefopjpdecaa
open Go.RowKit Go.Maps

/-- A key is there just if it stands where its rank says. -/
theorem Ranked.there {L : List (List UInt8)} {P : List Nat} (h : Ranked L P) {s : List UInt8} (hs : s ∈ L) : ∃ hr : rankOf L s < P.length, keyAt L (P[rankOf L s]) = s := by
  have hm : s ∈ P.map (keyAt L) := h.perm.mem_iff.2 hs
  obtain ⟨i, hi, he⟩ := List.getElem_of_mem hm
  have hi' : i < P.length := by simpa using hi
  rw [List.getElem_map] at he
  have h1 := h.less s hi'
  rw [he, less_self] at h1
  have h2 : rankOf L s ≤ i := by have := of_decide_eq_false h1.symm; omega
  rcases Nat.lt_or_ge (rankOf L s) i with hlt | hge
  · have h3 := h.less s (i := rankOf L s) (by omega)
    have h4 := List.pairwise_iff_getElem.1 h.sorted (rankOf L s) i (by omega) hi' hlt
    rw [he, h3] at h4
    simp at h4
  · have e : rankOf L s = i := by omega
    refine ⟨by omega, ?_⟩
    have : ∀ j (hj : j < P.length), j = i → keyAt L P[j] = s := fun j hj e => by subst e; exact he
    exact this _ _ e
theorem keyAt_mem {L : List (List UInt8)} {p : Nat} (h : p < L.length) : keyAt L p ∈ L := by
  unfold keyAt
  rw [List.getD_eq_getElem?_getD, List.getElem?_eq_getElem h]
  exact List.getElem_mem h
theorem place_of {L : List (List UInt8)} (hn : L.Nodup) {p : Nat} (hp : p < L.length) {s : List UInt8} (he : keyAt L p = s) : place L s = p := by
  have hs : s ∈ L := he ▸ keyAt_mem hp
  obtain ⟨hq, hqe⟩ := place_get hs
  have hpe : L[p] = s := by unfold keyAt at he; rw [List.getD_eq_getElem?_getD, List.getElem?_eq_getElem hp] at he; exact he
  rcases Nat.lt_trichotomy (place L s) p with h | h | h
  · exact absurd (hqe.trans hpe.symm) (List.pairwise_iff_getElem.1 hn _ _ hq hp h)
  · exact h
  · exact absurd (hpe.trans hqe.symm) (List.pairwise_iff_getElem.1 hn _ _ hp hq h)

set_option maxRecDepth 100000 in
set_option maxHeartbeats 4000000 in
theorem find_is {w : World} {B T : Nat} {vL vP : Value} {most : Nat} {L : List (List UInt8)} {P : List Nat} (h : RefAt w B T vL vP most L P) (A : Option Addr) (n c : Nat) (s : List UInt8) (hl : s.length = n) (hr : RdB w A s) :
    Calls Try.prog 16 #[.pointer (some ⟨T, 0, none⟩), .slice A n c] w fun en w' => en = .returned (.tuple #[.int .i64 (place L s : Nat), .bool (decide (s ∈ L))]) ∧ Below w.heap.size w w' := by
  have HREF := Kept.mk h
  have HR := Kept.mk hr
  clear hr
  obtain ⟨RK, hRK⟩ : ∃ RK, rankOf L s = RK := ⟨_, rfl⟩
  have hL := h.le
  have hbig := h.big
  have hPL := h.ranked.length
  have y1 := cell_of_row w T 1 _ _ _ h.hT
  have y2 := cell_of_row w T 2 _ _ _ h.hT
  obtain ⟨AL, cL, AP, cP, rfl, rfl, hcL, hcP, rL, rP⟩ := h.shapes
  have HL := Kept.mk rL
  have HP := Kept.mk rP
  have HRKE := Kept.mk hRK
  have Y1 := Kept.mk y1
  have Y2 := Kept.mk y2
  have HPL := Kept.mk hPL
  clear h rL rP hRK y1 y2 hPL
  obtain ⟨pl, hpl⟩ : ∃ pl, place L s = pl := ⟨_, rfl⟩
  obtain ⟨there, hth⟩ : ∃ b, decide (s ∈ L) = b := ⟨_, rfl⟩
  rw [hpl, hth]
  have HPLE := Kept.mk hpl
  have HTH := Kept.mk hth
  clear hpl hth
  go_enter Try.func16, Try.ntmps16
  go_wp2_with fail
  refine (place_is HREF.out A n c s hl HR.out).mono ?_
  rintro en wp ⟨rfl, hb⟩
  rw [HRKE.out]
  have HB := Kept.mk hb
  have HRK := Kept.mk (HR.out.past hb)
  have y1 := Y1.out
  have y2 := Y2.out
  clear hb
  by_cases hlt : RK < P.length
  · have hPk : P[RK] < L.length := HREF.out.ranked.lt _ (List.getElem_mem hlt)
    obtain ⟨x, hx⟩ : ∃ x, x = L[P[RK]] := ⟨_, rfl⟩
    have hxk : keyAt L P[RK] = x := by rw [hx]; unfold keyAt; rw [List.getD_eq_getElem?_getD, List.getElem?_eq_getElem hPk]; rfl
    have HXK := Kept.mk hxk
    have hle : P.length ≤ 1000000 := by have := HPL.out; omega
    obtain ⟨gL, oL, rfl, hgL, qL⟩ := HL.out.at_ hPk
    obtain ⟨gP, oP, rfl, hgP, qP⟩ := HP.out.at_ (i := RK) (by rw [natCs_length]; exact hlt)
    rw [← hx] at qL
    have qP : w.cell? ⟨gP, oP + RK, none⟩ = some (.int .i64 (P[RK] : Nat)) := by rw [qP]; simp [natCs]
    have HZ1 : Kept (∀ w1, Below wp.heap.size wp w1 → w1.cell? ⟨T, 1, none⟩ = some (.slice (some ⟨gL, oL, none⟩) L.length cL)) := ⟨fun w1 hB => by rw [(HB.out.trans (hB.mono HB.out.size)).cell (p := ⟨T, 1, none⟩) HREF.out.lt]; exact y1⟩
    have HZ2 : Kept (∀ w1, Below wp.heap.size wp w1 → w1.cell? ⟨T, 2, none⟩ = some (.slice (some ⟨gP, oP, none⟩) P.length cP)) := ⟨fun w1 hB => by rw [(HB.out.trans (hB.mono HB.out.size)).cell (p := ⟨T, 2, none⟩) HREF.out.lt]; exact y2⟩
    have HZ3 : Kept (∀ w1, Below wp.heap.size wp w1 → w1.cell? ⟨gP, oP + RK, none⟩ = some (.int .i64 (P[RK] : Nat))) := ⟨fun w1 hB => by rw [(HB.out.trans (hB.mono HB.out.size)).cell (p := ⟨gP, oP + RK, none⟩) hgP]; exact qP⟩
    have HZ4 : Kept (∀ w1, Below wp.heap.size wp w1 → w1.cell? ⟨gL, oL + P[RK], none⟩ = some (.string ⟨x.toArray⟩)) := ⟨fun w1 hB => by rw [(HB.out.trans (hB.mono HB.out.size)).cell (p := ⟨gL, oL + P[RK], none⟩) hgL]; exact qL⟩
    have HM : Kept (decide ((RK : Int) < (P.length : Int)) = true) := ⟨by simpa using hlt⟩
    by_cases hxs : x = s
    · have HX : Kept ((x == s) = true) := ⟨by simpa using hxs⟩
      have HPLA : Kept (place L s = P[RK]) := ⟨place_of HREF.out.nd hPk (HXK.out.trans hxs)⟩
      have HIN : Kept (decide (s ∈ L) = true) := ⟨by rw [← hxs, hx]; simp⟩
      clear hxs hx hxk qL qP y1 y2
      obtain rfl : pl = P[RK] := HPLE.out.symm.trans HPLA.out
      obtain rfl : there = true := HTH.out.symm.trans HIN.out
      go_upto_region 2 with fail
      refine region_tell (wp.heap.size) (G := fun _ => True) (ts := [
          .is (.int .i64 (RK : Nat)),
          .is (.pointer (some ⟨T, 0, none⟩)),
          .is (.pointer (some ⟨T, 0, none⟩)),
          .is (.pointer (some ⟨T, 2, none⟩)),
          .is (.slice (some ⟨gP, oP, none⟩) P.length cP),
          .is (.int .i64 (P.length : Int)),
          .is (.bool true),
          .is (.bool true),
          .is (.pointer (some ⟨T, 0, none⟩)),
          .is (.pointer (some ⟨T, 0, none⟩)),
          .is (.pointer (some ⟨T, 1, none⟩)),
          .is (.slice (some ⟨gL, oL, none⟩) L.length cL),
          .is (.pointer (some ⟨T, 0, none⟩)),
          .is (.pointer (some ⟨T, 0, none⟩)),
          .is (.pointer (some ⟨T, 2, none⟩)),
          .is (.slice (some ⟨gP, oP, none⟩) P.length cP),
          .is (.int .i64 (RK : Nat)),
          .is (.pointer (some ⟨gP, oP + RK, none⟩)),
          .is (.int .i64 (P[RK] : Nat)),
          .is (.pointer (some ⟨gL, oL + P[RK], none⟩)),
          .is (.string ⟨x.toArray⟩),
          .is (.slice A n c),
          .is (.string ⟨s.toArray⟩),
          .is (.bool true),
          .is (.bool true)]) (fin := []) (cs := []) (by kernel_rfl) rfl (by kernel_rfl) (by kernel_rfl) ⟨trivial, trivial, trivial, trivial, trivial, trivial, trivial, trivial, trivial, trivial, trivial, trivial, trivial, trivial, trivial, trivial, trivial, trivial, trivial, trivial, trivial, trivial, trivial, trivial, trivial, trivial⟩ (fun _ _ _ _ => trivial) (by simp) (by simp) trivial
        ⟨?_, ?_, ?_, ?_, ?_, ?_, ?_, ?_, ?_, ?_, ?_, ?_, ?_, ?_, ?_, ?_, ?_, ?_, ?_, ?_, ?_, ?_, ?_, ?_, ?_, trivial⟩ ?_
      · intro vals w1 hB _ hd
        clear hd
        refine one_value (v := Value.int .i64 (RK : Nat)) rfl ?_ (post_is rfl)
        kernel_rfl
      · intro vals w1 hB _ hd
        clear hd
        refine one_value (v := Value.pointer (some ⟨T, 0, none⟩)) rfl ?_ (post_is rfl)
        kernel_rfl
      · intro vals w1 hB _ hd
        clear hd
        refine one_value (v := Value.pointer (some ⟨T, 0, none⟩)) rfl ?_ (post_is rfl)
        refine Eq.trans (b := (execOp (Act.eval ⟨#[], []⟩) { dst := none, op := Op.nilCheck (.const (Value.pointer (some ⟨T, 0, none⟩))), type := 0, pos := "x", after := #[], guard := none }).run Try.prog w1) (by kernel_rfl) ?_; go_simp
      · intro vals w1 hB _ hd
        clear hd
        refine one_value (v := Value.pointer (some ⟨T, 2, none⟩)) rfl ?_ (post_is rfl)
        refine Eq.trans (b := (execOp (Act.eval ⟨#[], []⟩) { dst := none, op := Op.fieldAddr 45 (.const (Value.pointer (some ⟨T, 0, none⟩))) 2, type := 0, pos := "x", after := #[], guard := none }).run Try.prog w1) (by kernel_rfl) ?_; go_simp
      · intro vals w1 hB _ hd
        clear hd
        refine one_value (v := Value.slice (some ⟨gP, oP, none⟩) P.length cP) rfl ?_ (post_is rfl)
        have hz := HZ2.out w1 hB; refine Eq.trans (b := (execOp (Act.eval ⟨#[], []⟩) { dst := none, op := Op.load 38 (.const (Value.pointer (some ⟨T, 2, none⟩))), type := 0, pos := "x", after := #[], guard := none }).run Try.prog w1) (by kernel_rfl) ?_; go_simp
      · intro vals w1 hB _ hd
        clear hd
        refine one_value (v := Value.int .i64 (P.length : Int)) rfl ?_ (post_is rfl)
        kernel_rfl
      · intro vals w1 hB _ hd
        clear hd
        refine one_value (v := Value.bool true) rfl ?_ (post_is rfl)
        have hm := HM.out; refine Eq.trans (b := (execOp (Act.eval ⟨#[], []⟩) { dst := none, op := Op.binOp BinOp.lss 3 (.const (Value.int .i64 (RK : Nat))) (.const (Value.int .i64 (P.length : Int))) 3, type := 0, pos := "x", after := #[], guard := none }).run Try.prog w1) (by kernel_rfl) ?_; go_simp
      · intro vals w1 hB _ hd
        clear hd
        refine one_value (v := Value.bool true) rfl ?_ (post_is rfl)
        kernel_rfl
      · intro vals w1 hB _ hd
        clear hd
        refine one_value_g (v := Value.pointer (some ⟨T, 0, none⟩)) (by kernel_rfl) ?_ (post_is rfl)
        kernel_rfl
      · intro vals w1 hB _ hd
        clear hd
        refine one_value_g (v := Value.pointer (some ⟨T, 0, none⟩)) (by kernel_rfl) ?_ (post_is rfl)
        refine Eq.trans (b := (execOp (Act.eval ⟨#[], []⟩) { dst := none, op := Op.nilCheck (.const (Value.pointer (some ⟨T, 0, none⟩))), type := 0, pos := "x", after := #[], guard := none }).run Try.prog w1) (by kernel_rfl) ?_; go_simp
      · intro vals w1 hB _ hd
        clear hd
        refine one_value_g (v := Value.pointer (some ⟨T, 1, none⟩)) (by kernel_rfl) ?_ (post_is rfl)
        refine Eq.trans (b := (execOp (Act.eval ⟨#[], []⟩) { dst := none, op := Op.fieldAddr 45 (.const (Value.pointer (some ⟨T, 0, none⟩))) 1, type := 0, pos := "x", after := #[], guard := none }).run Try.prog w1) (by kernel_rfl) ?_; go_simp
      · intro vals w1 hB _ hd
        clear hd
        refine one_value_g (v := Value.slice (some ⟨gL, oL, none⟩) L.length cL) (by kernel_rfl) ?_ (post_is rfl)
        have hz := HZ1.out w1 hB; refine Eq.trans (b := (execOp (Act.eval ⟨#[], []⟩) { dst := none, op := Op.load 43 (.const (Value.pointer (some ⟨T, 1, none⟩))), type := 0, pos := "x", after := #[], guard := none }).run Try.prog w1) (by kernel_rfl) ?_; go_simp
      · intro vals w1 hB _ hd
        clear hd
        refine one_value_g (v := Value.pointer (some ⟨T, 0, none⟩)) (by kernel_rfl) ?_ (post_is rfl)
        kernel_rfl
      · intro vals w1 hB _ hd
        clear hd
        refine one_value_g (v := Value.pointer (some ⟨T, 0, none⟩)) (by kernel_rfl) ?_ (post_is rfl)
        refine Eq.trans (b := (execOp (Act.eval ⟨#[], []⟩) { dst := none, op := Op.nilCheck (.const (Value.pointer (some ⟨T, 0, none⟩))), type := 0, pos := "x", after := #[], guard := none }).run Try.prog w1) (by kernel_rfl) ?_; go_simp
      · intro vals w1 hB _ hd
        clear hd
        refine one_value_g (v := Value.pointer (some ⟨T, 2, none⟩)) (by kernel_rfl) ?_ (post_is rfl)
        refine Eq.trans (b := (execOp (Act.eval ⟨#[], []⟩) { dst := none, op := Op.fieldAddr 45 (.const (Value.pointer (some ⟨T, 0, none⟩))) 2, type := 0, pos := "x", after := #[], guard := none }).run Try.prog w1) (by kernel_rfl) ?_; go_simp
      · intro vals w1 hB _ hd
        clear hd
        refine one_value_g (v := Value.slice (some ⟨gP, oP, none⟩) P.length cP) (by kernel_rfl) ?_ (post_is rfl)
        have hz := HZ2.out w1 hB; refine Eq.trans (b := (execOp (Act.eval ⟨#[], []⟩) { dst := none, op := Op.load 38 (.const (Value.pointer (some ⟨T, 2, none⟩))), type := 0, pos := "x", after := #[], guard := none }).run Try.prog w1) (by kernel_rfl) ?_; go_simp
      · intro vals w1 hB _ hd
        clear hd
        refine one_value_g (v := Value.int .i64 (RK : Nat)) (by kernel_rfl) ?_ (post_is rfl)
        kernel_rfl
      · intro vals w1 hB _ hd
        clear hd
        refine one_value_g (v := Value.pointer (some ⟨gP, oP + RK, none⟩)) (by kernel_rfl) ?_ (post_is rfl)
        refine Eq.trans (b := (execOp (Act.eval ⟨#[], []⟩) { dst := none, op := Op.indexAddr 38 (.const (Value.slice (some ⟨gP, oP, none⟩) P.length cP)) (.const (Value.int .i64 (RK : Nat))), type := 0, pos := "x", after := #[], guard := none }).run Try.prog w1) (by kernel_rfl) ?_; go_simp; try (intro h; omega)
      · intro vals w1 hB _ hd
        clear hd
        refine one_value_g (v := Value.int .i64 (P[RK] : Nat)) (by kernel_rfl) ?_ (post_is rfl)
        have hz := HZ3.out w1 hB; refine Eq.trans (b := (execOp (Act.eval ⟨#[], []⟩) { dst := none, op := Op.load 3 (.const (Value.pointer (some ⟨gP, oP + RK, none⟩))), type := 0, pos := "x", after := #[], guard := none }).run Try.prog w1) (by kernel_rfl) ?_; go_simp
      · intro vals w1 hB _ hd
        clear hd
        refine one_value_g (v := Value.pointer (some ⟨gL, oL + P[RK], none⟩)) (by kernel_rfl) ?_ (post_is rfl)
        refine Eq.trans (b := (execOp (Act.eval ⟨#[], []⟩) { dst := none, op := Op.indexAddr 43 (.const (Value.slice (some ⟨gL, oL, none⟩) L.length cL)) (.const (Value.int .i64 (P[RK] : Nat))), type := 0, pos := "x", after := #[], guard := none }).run Try.prog w1) (by kernel_rfl) ?_; go_simp; try (intro h; omega)
      · intro vals w1 hB _ hd
        clear hd
        refine one_value_g (v := Value.string ⟨x.toArray⟩) (by kernel_rfl) ?_ (post_is rfl)
        have hz := HZ4.out w1 hB; refine Eq.trans (b := (execOp (Act.eval ⟨#[], []⟩) { dst := none, op := Op.load 9 (.const (Value.pointer (some ⟨gL, oL + P[RK], none⟩))), type := 0, pos := "x", after := #[], guard := none }).run Try.prog w1) (by kernel_rfl) ?_; go_simp
      · intro vals w1 hB _ hd
        clear hd
        refine one_value_g (v := Value.slice A n c) (by kernel_rfl) ?_ (post_is rfl)
        kernel_rfl
      · intro vals w1 hB _ hd
        clear hd
        refine one_value_g (v := Value.string ⟨s.toArray⟩) (by kernel_rfl) ?_ (post_is rfl)
        have hs := run_string (c := c) (HRK.out.past hB) hl; refine Eq.trans (b := (execOp (Act.eval ⟨#[], []⟩) { dst := none, op := Op.convert 25 9 (.const (Value.slice A n c)), type := 0, pos := "x", after := #[], guard := none }).run Try.prog w1) (by kernel_rfl) ?_; go_simp
      · intro vals w1 hB _ hd
        clear hd
        refine one_value_g (v := Value.bool true) (by kernel_rfl) ?_ (post_is rfl)
        have hx := HX.out; refine Eq.trans (b := (execOp (Act.eval ⟨#[], []⟩) { dst := none, op := Op.binOp BinOp.eql 9 (.const (Value.string ⟨x.toArray⟩)) (.const (Value.string ⟨s.toArray⟩)) 9, type := 0, pos := "x", after := #[], guard := none }).run Try.prog w1) (by kernel_rfl) ?_; go_simp
      · intro vals w1 hB _ hd
        clear hd
        refine one_value (v := Value.bool true) rfl ?_ (post_is rfl)
        kernel_rfl
      intro vals w1 hB _ hr
      simp only [fillT, Tell.is, Act.put, List.setIfInBounds_toArray, List.set_cons_zero, List.set_cons_succ]
      have hz2 := HZ2.out w1 hB
      have hz3 := HZ3.out w1 hB
      go_wp2
      go_ret2
      exact ⟨rfl, HB.out.trans (hB.mono HB.out.size)⟩
    · have HX : Kept ((x == s) = false) := ⟨by simpa using hxs⟩
      have hnot : s ∉ L := fun hs => by
        obtain ⟨hr, he⟩ := HREF.out.ranked.there hs
        have : ∀ j (hj : j < P.length), j = RK → keyAt L P[j] = x := fun j hj e => by subst e; exact HXK.out
        exact hxs ((this _ hr HRKE.out).symm.trans he)
      have HNO : Kept (place L s = 0) := ⟨if_neg hnot⟩
      obtain rfl : pl = 0 := HPLE.out.symm.trans HNO.out
      obtain rfl : there = false := HTH.out.symm.trans (decide_eq_false hnot)
      clear hxs hx hxk qL qP y1 y2
      go_upto_region 2 with fail
      refine region_tell (wp.heap.size) (G := fun _ => True) (ts := [
          .is (.int .i64 (RK : Nat)),
          .is (.pointer (some ⟨T, 0, none⟩)),
          .is (.pointer (some ⟨T, 0, none⟩)),
          .is (.pointer (some ⟨T, 2, none⟩)),
          .is (.slice (some ⟨gP, oP, none⟩) P.length cP),
          .is (.int .i64 (P.length : Int)),
          .is (.bool true),
          .is (.bool true),
          .is (.pointer (some ⟨T, 0, none⟩)),
          .is (.pointer (some ⟨T, 0, none⟩)),
          .is (.pointer (some ⟨T, 1, none⟩)),
          .is (.slice (some ⟨gL, oL, none⟩) L.length cL),
          .is (.pointer (some ⟨T, 0, none⟩)),
          .is (.pointer (some ⟨T, 0, none⟩)),
          .is (.pointer (some ⟨T, 2, none⟩)),
          .is (.slice (some ⟨gP, oP, none⟩) P.length cP),
          .is (.int .i64 (RK : Nat)),
          .is (.pointer (some ⟨gP, oP + RK, none⟩)),
          .is (.int .i64 (P[RK] : Nat)),
          .is (.pointer (some ⟨gL, oL + P[RK], none⟩)),
          .is (.string ⟨x.toArray⟩),
          .is (.slice A n c),
          .is (.string ⟨s.toArray⟩),
          .is (.bool false),
          .is (.bool false)]) (fin := []) (cs := []) (by kernel_rfl) rfl (by kernel_rfl) (by kernel_rfl) ⟨trivial, trivial, trivial, trivial, trivial, trivial, trivial, trivial, trivial, trivial, trivial, trivial, trivial, trivial, trivial, trivial, trivial, trivial, trivial, trivial, trivial, trivial, trivial, trivial, trivial, trivial⟩ (fun _ _ _ _ => trivial) (by simp) (by simp) trivial
        ⟨?_, ?_, ?_, ?_, ?_, ?_, ?_, ?_, ?_, ?_, ?_, ?_, ?_, ?_, ?_, ?_, ?_, ?_, ?_, ?_, ?_, ?_, ?_, ?_, ?_, trivial⟩ ?_
      · intro vals w1 hB _ hd
        clear hd
        refine one_value (v := Value.int .i64 (RK : Nat)) rfl ?_ (post_is rfl)
        kernel_rfl
      · intro vals w1 hB _ hd
        clear hd
        refine one_value (v := Value.pointer (some ⟨T, 0, none⟩)) rfl ?_ (post_is rfl)
        kernel_rfl
      · intro vals w1 hB _ hd
        clear hd
        refine one_value (v := Value.pointer (some ⟨T, 0, none⟩)) rfl ?_ (post_is rfl)
        refine Eq.trans (b := (execOp (Act.eval ⟨#[], []⟩) { dst := none, op := Op.nilCheck (.const (Value.pointer (some ⟨T, 0, none⟩))), type := 0, pos := "x", after := #[], guard := none }).run Try.prog w1) (by kernel_rfl) ?_; go_simp
      · intro vals w1 hB _ hd
        clear hd
        refine one_value (v := Value.pointer (some ⟨T, 2, none⟩)) rfl ?_ (post_is rfl)
        refine Eq.trans (b := (execOp (Act.eval ⟨#[], []⟩) { dst := none, op := Op.fieldAddr 45 (.const (Value.pointer (some ⟨T, 0, none⟩))) 2, type := 0, pos := "x", after := #[], guard := none }).run Try.prog w1) (by kernel_rfl) ?_; go_simp
      · intro vals w1 hB _ hd
        clear hd
        refine one_value (v := Value.slice (some ⟨gP, oP, none⟩) P.length cP) rfl ?_ (post_is rfl)
        have hz := HZ2.out w1 hB; refine Eq.trans (b := (execOp (Act.eval ⟨#[], []⟩) { dst := none, op := Op.load 38 (.const (Value.pointer (some ⟨T, 2, none⟩))), type := 0, pos := "x", after := #[], guard := none }).run Try.prog w1) (by kernel_rfl) ?_; go_simp
      · intro vals w1 hB _ hd
        clear hd
        refine one_value (v := Value.int .i64 (P.length : Int)) rfl ?_ (post_is rfl)
        kernel_rfl
      · intro vals w1 hB _ hd
        clear hd
        refine one_value (v := Value.bool true) rfl ?_ (post_is rfl)
        have hm := HM.out; refine Eq.trans (b := (execOp (Act.eval ⟨#[], []⟩) { dst := none, op := Op.binOp BinOp.lss 3 (.const (Value.int .i64 (RK : Nat))) (.const (Value.int .i64 (P.length : Int))) 3, type := 0, pos := "x", after := #[], guard := none }).run Try.prog w1) (by kernel_rfl) ?_; go_simp
      · intro vals w1 hB _ hd
        clear hd
        refine one_value (v := Value.bool true) rfl ?_ (post_is rfl)
        kernel_rfl
      · intro vals w1 hB _ hd
        clear hd
        refine one_value_g (v := Value.pointer (some ⟨T, 0, none⟩)) (by kernel_rfl) ?_ (post_is rfl)
        kernel_rfl
      · intro vals w1 hB _ hd
        clear hd
        refine one_value_g (v := Value.pointer (some ⟨T, 0, none⟩)) (by kernel_rfl) ?_ (post_is rfl)
        refine Eq.trans (b := (execOp (Act.eval ⟨#[], []⟩) { dst := none, op := Op.nilCheck (.const (Value.pointer (some ⟨T, 0, none⟩))), type := 0, pos := "x", after := #[], guard := none }).run Try.prog w1) (by kernel_rfl) ?_; go_simp
      · intro vals w1 hB _ hd
        clear hd
        refine one_value_g (v := Value.pointer (some ⟨T, 1, none⟩)) (by kernel_rfl) ?_ (post_is rfl)
        refine Eq.trans (b := (execOp (Act.eval ⟨#[], []⟩) { dst := none, op := Op.fieldAddr 45 (.const (Value.pointer (some ⟨T, 0, none⟩))) 1, type := 0, pos := "x", after := #[], guard := none }).run Try.prog w1) (by kernel_rfl) ?_; go_simp
      · intro vals w1 hB _ hd
        clear hd
        refine one_value_g (v := Value.slice (some ⟨gL, oL, none⟩) L.length cL) (by kernel_rfl) ?_ (post_is rfl)
        have hz := HZ1.out w1 hB; refine Eq.trans (b := (execOp (Act.eval ⟨#[], []⟩) { dst := none, op := Op.load 43 (.const (Value.pointer (some ⟨T, 1, none⟩))), type := 0, pos := "x", after := #[], guard := none }).run Try.prog w1) (by kernel_rfl) ?_; go_simp
      · intro vals w1 hB _ hd
        clear hd
        refine one_value_g (v := Value.pointer (some ⟨T, 0, none⟩)) (by kernel_rfl) ?_ (post_is rfl)
        kernel_rfl
      · intro vals w1 hB _ hd
        clear hd
        refine one_value_g (v := Value.pointer (some ⟨T, 0, none⟩)) (by kernel_rfl) ?_ (post_is rfl)
        refine Eq.trans (b := (execOp (Act.eval ⟨#[], []⟩) { dst := none, op := Op.nilCheck (.const (Value.pointer (some ⟨T, 0, none⟩))), type := 0, pos := "x", after := #[], guard := none }).run Try.prog w1) (by kernel_rfl) ?_; go_simp
      · intro vals w1 hB _ hd
        clear hd
        refine one_value_g (v := Value.pointer (some ⟨T, 2, none⟩)) (by kernel_rfl) ?_ (post_is rfl)
        refine Eq.trans (b := (execOp (Act.eval ⟨#[], []⟩) { dst := none, op := Op.fieldAddr 45 (.const (Value.pointer (some ⟨T, 0, none⟩))) 2, type := 0, pos := "x", after := #[], guard := none }).run Try.prog w1) (by kernel_rfl) ?_; go_simp
      · intro vals w1 hB _ hd
        clear hd
        refine one_value_g (v := Value.slice (some ⟨gP, oP, none⟩) P.length cP) (by kernel_rfl) ?_ (post_is rfl)
        have hz := HZ2.out w1 hB; refine Eq.trans (b := (execOp (Act.eval ⟨#[], []⟩) { dst := none, op := Op.load 38 (.const (Value.pointer (some ⟨T, 2, none⟩))), type := 0, pos := "x", after := #[], guard := none }).run Try.prog w1) (by kernel_rfl) ?_; go_simp
      · intro vals w1 hB _ hd
        clear hd
        refine one_value_g (v := Value.int .i64 (RK : Nat)) (by kernel_rfl) ?_ (post_is rfl)
        kernel_rfl
      · intro vals w1 hB _ hd
        clear hd
        refine one_value_g (v := Value.pointer (some ⟨gP, oP + RK, none⟩)) (by kernel_rfl) ?_ (post_is rfl)
        refine Eq.trans (b := (execOp (Act.eval ⟨#[], []⟩) { dst := none, op := Op.indexAddr 38 (.const (Value.slice (some ⟨gP, oP, none⟩) P.length cP)) (.const (Value.int .i64 (RK : Nat))), type := 0, pos := "x", after := #[], guard := none }).run Try.prog w1) (by kernel_rfl) ?_; go_simp; try (intro h; omega)
      · intro vals w1 hB _ hd
        clear hd
        refine one_value_g (v := Value.int .i64 (P[RK] : Nat)) (by kernel_rfl) ?_ (post_is rfl)
        have hz := HZ3.out w1 hB; refine Eq.trans (b := (execOp (Act.eval ⟨#[], []⟩) { dst := none, op := Op.load 3 (.const (Value.pointer (some ⟨gP, oP + RK, none⟩))), type := 0, pos := "x", after := #[], guard := none }).run Try.prog w1) (by kernel_rfl) ?_; go_simp
      · intro vals w1 hB _ hd
        clear hd
        refine one_value_g (v := Value.pointer (some ⟨gL, oL + P[RK], none⟩)) (by kernel_rfl) ?_ (post_is rfl)
        refine Eq.trans (b := (execOp (Act.eval ⟨#[], []⟩) { dst := none, op := Op.indexAddr 43 (.const (Value.slice (some ⟨gL, oL, none⟩) L.length cL)) (.const (Value.int .i64 (P[RK] : Nat))), type := 0, pos := "x", after := #[], guard := none }).run Try.prog w1) (by kernel_rfl) ?_; go_simp; try (intro h; omega)
      · intro vals w1 hB _ hd
        clear hd
        refine one_value_g (v := Value.string ⟨x.toArray⟩) (by kernel_rfl) ?_ (post_is rfl)
        have hz := HZ4.out w1 hB; refine Eq.trans (b := (execOp (Act.eval ⟨#[], []⟩) { dst := none, op := Op.load 9 (.const (Value.pointer (some ⟨gL, oL + P[RK], none⟩))), type := 0, pos := "x", after := #[], guard := none }).run Try.prog w1) (by kernel_rfl) ?_; go_simp
      · intro vals w1 hB _ hd
        clear hd
        refine one_value_g (v := Value.slice A n c) (by kernel_rfl) ?_ (post_is rfl)
        kernel_rfl
      · intro vals w1 hB _ hd
        clear hd
        refine one_value_g (v := Value.string ⟨s.toArray⟩) (by kernel_rfl) ?_ (post_is rfl)
        have hs := run_string (c := c) (HRK.out.past hB) hl; refine Eq.trans (b := (execOp (Act.eval ⟨#[], []⟩) { dst := none, op := Op.convert 25 9 (.const (Value.slice A n c)), type := 0, pos := "x", after := #[], guard := none }).run Try.prog w1) (by kernel_rfl) ?_; go_simp
      · intro vals w1 hB _ hd
        clear hd
        refine one_value_g (v := Value.bool false) (by kernel_rfl) ?_ (post_is rfl)
        have hx := HX.out; refine Eq.trans (b := (execOp (Act.eval ⟨#[], []⟩) { dst := none, op := Op.binOp BinOp.eql 9 (.const (Value.string ⟨x.toArray⟩)) (.const (Value.string ⟨s.toArray⟩)) 9, type := 0, pos := "x", after := #[], guard := none }).run Try.prog w1) (by kernel_rfl) ?_; go_simp
      · intro vals w1 hB _ hd
        clear hd
        refine one_value (v := Value.bool false) rfl ?_ (post_is rfl)
        kernel_rfl
      intro vals w1 hB _ hr
      simp only [fillT, Tell.is, Act.put, List.setIfInBounds_toArray, List.set_cons_zero, List.set_cons_succ]
      go_wp2
      go_ret2
      exact ⟨rfl, HB.out.trans (hB.mono HB.out.size)⟩
  · have hnot : s ∉ L := fun hs => by
      obtain ⟨hr, _⟩ := HREF.out.ranked.there hs
      have := HRKE.out
      omega
    have HNO : Kept (place L s = 0) := ⟨if_neg hnot⟩
    obtain rfl : pl = 0 := HPLE.out.symm.trans HNO.out
    obtain rfl : there = false := HTH.out.symm.trans (decide_eq_false hnot)
    have HM : Kept (decide ((RK : Int) < (P.length : Int)) = false) := ⟨by simpa using hlt⟩
    have HZ2 : Kept (∀ w1, Below wp.heap.size wp w1 → w1.cell? ⟨T, 2, none⟩ = some (.slice AP P.length cP)) := ⟨fun w1 hB => by rw [(HB.out.trans (hB.mono HB.out.size)).cell (p := ⟨T, 2, none⟩) HREF.out.lt]; exact y2⟩
    clear y1 y2
    go_upto_region 2 with fail
    refine region_tell (wp.heap.size) (G := fun _ => True) (ts := [
        .is (.int .i64 (RK : Nat)),
        .is (.pointer (some ⟨T, 0, none⟩)),
        .is (.pointer (some ⟨T, 0, none⟩)),
        .is (.pointer (some ⟨T, 2, none⟩)),
        .is (.slice AP P.length cP),
        .is (.int .i64 (P.length : Int)),
        .is (.bool false),
        .is (.bool false),
        .is (undef),
        .is (undef),
        .is (undef),
        .is (undef),
        .is (undef),
        .is (undef),
        .is (undef),
        .is (undef),
        .is (undef),
        .is (undef),
        .is (undef),
        .is (undef),
        .is (undef),
        .is (undef),
        .is (undef),
        .is (undef),
        .is (.bool false)]) (fin := []) (cs := []) (by kernel_rfl) rfl (by kernel_rfl) (by kernel_rfl) ⟨trivial, trivial, trivial, trivial, trivial, trivial, trivial, trivial, trivial, trivial, trivial, trivial, trivial, trivial, trivial, trivial, trivial, trivial, trivial, trivial, trivial, trivial, trivial, trivial, trivial, trivial⟩ (fun _ _ _ _ => trivial) (by simp) (by simp) trivial
      ⟨?_, ?_, ?_, ?_, ?_, ?_, ?_, ?_, ?_, ?_, ?_, ?_, ?_, ?_, ?_, ?_, ?_, ?_, ?_, ?_, ?_, ?_, ?_, ?_, ?_, trivial⟩ ?_
    · intro vals w1 hB _ hd
      clear hd
      refine one_value (v := Value.int .i64 (RK : Nat)) rfl ?_ (post_is rfl)
      kernel_rfl
    · intro vals w1 hB _ hd
      clear hd
      refine one_value (v := Value.pointer (some ⟨T, 0, none⟩)) rfl ?_ (post_is rfl)
      kernel_rfl
    · intro vals w1 hB _ hd
      clear hd
      refine one_value (v := Value.pointer (some ⟨T, 0, none⟩)) rfl ?_ (post_is rfl)
      refine Eq.trans (b := (execOp (Act.eval ⟨#[], []⟩) { dst := none, op := Op.nilCheck (.const (Value.pointer (some ⟨T, 0, none⟩))), type := 0, pos := "x", after := #[], guard := none }).run Try.prog w1) (by kernel_rfl) ?_; go_simp
    · intro vals w1 hB _ hd
      clear hd
      refine one_value (v := Value.pointer (some ⟨T, 2, none⟩)) rfl ?_ (post_is rfl)
      refine Eq.trans (b := (execOp (Act.eval ⟨#[], []⟩) { dst := none, op := Op.fieldAddr 45 (.const (Value.pointer (some ⟨T, 0, none⟩))) 2, type := 0, pos := "x", after := #[], guard := none }).run Try.prog w1) (by kernel_rfl) ?_; go_simp
    · intro vals w1 hB _ hd
      clear hd
      refine one_value (v := Value.slice AP P.length cP) rfl ?_ (post_is rfl)
      have hz := HZ2.out w1 hB; refine Eq.trans (b := (execOp (Act.eval ⟨#[], []⟩) { dst := none, op := Op.load 38 (.const (Value.pointer (some ⟨T, 2, none⟩))), type := 0, pos := "x", after := #[], guard := none }).run Try.prog w1) (by kernel_rfl) ?_; go_simp
    · intro vals w1 hB _ hd
      clear hd
      refine one_value (v := Value.int .i64 (P.length : Int)) rfl ?_ (post_is rfl)
      kernel_rfl
    · intro vals w1 hB _ hd
      clear hd
      refine one_value (v := Value.bool false) rfl ?_ (post_is rfl)
      have hm := HM.out; refine Eq.trans (b := (execOp (Act.eval ⟨#[], []⟩) { dst := none, op := Op.binOp BinOp.lss 3 (.const (Value.int .i64 (RK : Nat))) (.const (Value.int .i64 (P.length : Int))) 3, type := 0, pos := "x", after := #[], guard := none }).run Try.prog w1) (by kernel_rfl) ?_; go_simp
    · intro vals w1 hB _ hd
      clear hd
      refine one_value (v := Value.bool false) rfl ?_ (post_is rfl)
      kernel_rfl
    · intro vals w1 hB _ hd
      clear hd
      exact one_not (by kernel_rfl) (post_is rfl)
    · intro vals w1 hB _ hd
      clear hd
      exact one_not (by kernel_rfl) (post_is rfl)
    · intro vals w1 hB _ hd
      clear hd
      exact one_not (by kernel_rfl) (post_is rfl)
    · intro vals w1 hB _ hd
      clear hd
      exact one_not (by kernel_rfl) (post_is rfl)
    · intro vals w1 hB _ hd
      clear hd
      exact one_not (by kernel_rfl) (post_is rfl)
    · intro vals w1 hB _ hd
      clear hd
      exact one_not (by kernel_rfl) (post_is rfl)
    · intro vals w1 hB _ hd
      clear hd
      exact one_not (by kernel_rfl) (post_is rfl)
    · intro vals w1 hB _ hd
      clear hd
      exact one_not (by kernel_rfl) (post_is rfl)
    · intro vals w1 hB _ hd
      clear hd
      exact one_not (by kernel_rfl) (post_is rfl)
    · intro vals w1 hB _ hd
      clear hd
      exact one_not (by kernel_rfl) (post_is rfl)
    · intro vals w1 hB _ hd
      clear hd
      exact one_not (by kernel_rfl) (post_is rfl)
    · intro vals w1 hB _ hd
      clear hd
      exact one_not (by kernel_rfl) (post_is rfl)
    · intro vals w1 hB _ hd
      clear hd
      exact one_not (by kernel_rfl) (post_is rfl)
    · intro vals w1 hB _ hd
      clear hd
      exact one_not (by kernel_rfl) (post_is rfl)
    · intro vals w1 hB _ hd
      clear hd
      exact one_not (by kernel_rfl) (post_is rfl)
    · intro vals w1 hB _ hd
      clear hd
      exact one_not (by kernel_rfl) (post_is rfl)
    · intro vals w1 hB _ hd
      clear hd
      refine one_value (v := Value.bool false) rfl ?_ (post_is rfl)
      kernel_rfl
    intro vals w1 hB _ hr
    simp only [fillT, Tell.is, Act.put, List.setIfInBounds_toArray, List.set_cons_zero, List.set_cons_succ]
    go_wp2
    go_ret2
    exact ⟨rfl, HB.out.trans (hB.mono HB.out.size)⟩
theorem ref_rank {w : World} {B T : Nat} {vL vP : Value} {most : Nat} {L : List (List UInt8)} {P : List Nat} (h : RefAt w B T vL vP most L P) (A : Option Addr) (n c : Nat) (s : List UInt8) (hl : s.length = n) (hr : RdB w A s) :
    Calls Try.prog 17 #[.pointer (some ⟨T, 0, none⟩), .slice A n c] w fun en w' => en = .returned (.int .i64 (rankOf L s : Nat)) ∧ Below w.heap.size w w' := by
  have HREF := Kept.mk h
  have HR := Kept.mk hr
  clear h hr
  go_enter Try.func17, Try.ntmps17
  go_wp2_with fail
  refine (place_is HREF.out A n c s hl HR.out).mono ?_
  rintro en wp ⟨rfl, hb⟩
  have HB := Kept.mk hb
  clear hb
  go_wp2_with fail
  go_ret
  exact ⟨rfl, HB.out⟩
end Go.Proofs.Ytonlefopjpdecaa
