/- The document's own set: keys in the order of coming, and their places by rank. -/
import Derived.Test.YtonlefopjpdecaaSet2
namespace Go.Proofs.Ytonlefopjpdecaa
open Go.RowKit Go.Maps

def keyAt (L : List (List UInt8)) (p : Nat) : List UInt8 := L.getD p []
/-- The places of the keys in their order. -/
structure Ranked (L : List (List UInt8)) (P : List Nat) : Prop where
  lt : ∀ p ∈ P, p < L.length
  sorted : P.Pairwise fun p q => lessB (keyAt L p) (keyAt L q) = true
  perm : (P.map (keyAt L)).Perm L
theorem Ranked.length {L : List (List UInt8)} {P : List Nat} (h : Ranked L P) : P.length = L.length := by have := h.perm.length_eq; simpa using this
theorem sorted_count {s : List UInt8} : ∀ {K : List (List UInt8)}, K.Pairwise (fun x y => lessB x y = true) → ∀ (i : Nat) (hi : i < K.length), lessB K[i] s = decide (i < K.countP fun x => lessB x s)
  | [], _, i, hi => by simp at hi
  | x :: K, hp, i, hi => by
    obtain ⟨h1, h2⟩ := List.pairwise_cons.1 hp
    have ih := sorted_count (s := s) h2
    by_cases hx : lessB x s = true
    · have e : (x :: K).countP (fun x => lessB x s) = K.countP (fun x => lessB x s) + 1 := by simp [hx]
      rw [e]
      cases i with
      | zero => simp [hx]
      | succ i => rw [List.getElem_cons_succ, ih i (by simpa using hi)]; simp
    · have hno : ∀ y ∈ x :: K, ¬ lessB y s = true := by
        intro y hy
        rcases List.mem_cons.1 hy with rfl | hy
        · exact hx
        · exact fun h => hx (less_trans (h1 y hy) h)
      rw [List.countP_eq_zero.2 hno]
      have := hno _ (List.getElem_mem hi)
      simpa using this
theorem Ranked.count {L : List (List UInt8)} {P : List Nat} (h : Ranked L P) (s : List UInt8) : (P.map (keyAt L)).countP (fun x => lessB x s) = rankOf L s := h.perm.countP_eq _
theorem Ranked.less {L : List (List UInt8)} {P : List Nat} (h : Ranked L P) (s : List UInt8) {i : Nat} (hi : i < P.length) : lessB (keyAt L P[i]) s = decide (i < rankOf L s) := by
  have := sorted_count (s := s) (K := P.map (keyAt L)) (List.pairwise_map.2 h.sorted) i (by simpa using hi)
  rw [h.count s] at this
  simpa using this
def natCs (P : List Nat) : List Int := P.map Int.ofNat
/-- The set lies at block T. -/
structure RefAt (w : World) (B T : Nat) (vL vP : Value) (most : Nat) (L : List (List UInt8)) (P : List Nat) : Prop where
  bT : B ≤ T
  hT : w.heap[T]? = some (.cells #[.int .i64 (most : Nat), vL, vP] 45 (0, 0))
  keys : OwnS w B vL L
  ranks : OwnI w B vP (natCs P)
  ranked : Ranked L P
  nd : L.Nodup
  le : L.length ≤ most
  big : most ≤ 1000000
theorem RefAt.lt {w : World} {B T : Nat} {vL vP : Value} {most : Nat} {L : List (List UInt8)} {P : List Nat} (h : RefAt w B T vL vP most L P) : T < w.heap.size := (Array.getElem?_eq_some_iff.1 h.hT).1
theorem RefAt.past {w w' : World} {B T : Nat} {vL vP : Value} {most : Nat} {L : List (List UInt8)} {P : List Nat} (h : RefAt w B T vL vP most L P) (hb : Below w.heap.size w w') : RefAt w' B T vL vP most L P :=
  ⟨h.bT, (hb.block T h.lt).trans h.hT, h.keys.past hb, h.ranks.past hb, h.ranked, h.nd, h.le, h.big⟩
theorem natCs_length (P : List Nat) : (natCs P).length = P.length := by simp [natCs]
theorem RefAt.shapes {w : World} {B T : Nat} {vL vP : Value} {most : Nat} {L : List (List UInt8)} {P : List Nat} (h : RefAt w B T vL vP most L P) :
    ∃ AL cL AP cP, vL = .slice AL L.length cL ∧ vP = .slice AP P.length cP ∧ L.length ≤ cL ∧ P.length ≤ cP ∧ RdS w AL L ∧ RdI w AP (natCs P) := by
  obtain ⟨AL, cL, e1, h1, r1⟩ := h.keys.shape
  obtain ⟨AP, cP, e2, h2, r2⟩ := h.ranks.shape
  rw [natCs_length] at e2 h2
  exact ⟨AL, cL, AP, cP, e1, e2, h1, h2, r1, r2⟩

theorem one_conv {l : List Oper} {a1 : Act} {o : Oper} {w : World} {post : Value → World → Prop} {x : List UInt8} (hg : o.guard = none)
    (hr : (execOp a1.eval o).run Try.prog w = (execOp (Act.eval ⟨#[], []⟩) { dst := none, op := Op.convert 9 25 (.const (.string ⟨x.toArray⟩)), type := 0, pos := "x", after := #[], guard := none }).run Try.prog w)
    (hp : ∀ A c w', RdB w' A x → Below w.heap.size w w' → post (.slice A x.length c) w') : OneOp Try.prog l a1 o w post := by
  have hb := run_bytes_of_string (P := Try.prog) w 9 25 5 ⟨x.toArray⟩ Try.underlying9 Try.underlying25 Try.underlying5
  conv at hr => rhs; simp only [execOp, Act.eval, Sem.run_bind, hb, Result.andThen_ok, Sem.run_pure]
  refine one_makes hg hr ?_
  exact hp _ _ _ (str_reads w.drew x _ _ rfl) ((Below.refl _ w).drew.alloc (Nat.le_refl _) _)
set_option maxRecDepth 100000 in
set_option maxHeartbeats 4000000 in
theorem place_is {w : World} {B T : Nat} {vL vP : Value} {most : Nat} {L : List (List UInt8)} {P : List Nat} (h : RefAt w B T vL vP most L P) (A : Option Addr) (n c : Nat) (s : List UInt8) (hl : s.length = n) (hr : RdB w A s) :
    Calls Try.prog 20 #[.pointer (some ⟨T, 0, none⟩), .slice A n c] w fun en w' => en = .returned (.int .i64 (rankOf L s : Nat)) ∧ Below w.heap.size w w' := by
  obtain ⟨AL, cL, AP, cP, rfl, rfl, hcL, hcP, rL, rP⟩ := h.shapes
  have z2 := cell_of_row w T 2 _ _ _ h.hT
  have HREF := Kept.mk h
  have HR := Kept.mk hr
  have HL := Kept.mk rL
  have HP := Kept.mk rP
  have hPL := h.ranked.length
  have HPL := Kept.mk hPL
  have hL := h.le
  have hbig := h.big
  have hrk : rankOf L s ≤ P.length := by rw [hPL]; exact rank_le L s
  have hPb : P.length ≤ 1000000 := by omega
  clear h hr rL rP hPL
  go_enter Try.func20, Try.ntmps20
  go_wp2_with fail
  go_quiet (fail)
  go_wp2_with fail
  go_loopw [5, 6] (fun lv hv wr => ∃ lo hi : Nat, lo ≤ rankOf L s ∧ rankOf L s ≤ hi ∧ hi ≤ P.length ∧ lv = .int .i64 lo ∧ hv = .int .i64 hi ∧ Below w.heap.size w wr) (fun lv hv _ => (intOf hv).toNat - (intOf lv).toNat)
  case atStart => exact ⟨0, P.length, by omega, hrk, Nat.le_refl _, rfl, rfl, below_drewN (Below.refl _ _) _⟩
  case round =>
    obtain ⟨lo, hi, h1, h2, h3, rfl, rfl, hb⟩ := hrel
    have HB := Kept.mk hb
    clear hb
    by_cases hlt : lo < hi
    · obtain ⟨k, hk⟩ : ∃ k : Nat, k = (lo + hi) / 2 := ⟨_, rfl⟩
      have ws : IntKind.i64.wrap ((lo : Int) + (hi : Int)) = (lo : Int) + (hi : Int) := IntWalk.i64_in _ (by omega)
      have hq1 : ((lo : Int) + (hi : Int)) / 2 = (k : Int) := by omega
      have hq2 : Int.tdiv ((lo : Int) + (hi : Int)) 2 = (k : Int) := by rw [Int.tdiv_eq_ediv_of_nonneg (by omega)]; exact hq1
      have wk : IntKind.i64.wrap ((k : Int) + 1) = (k : Int) + 1 := IntWalk.i64_in _ (by omega)
      have hkP : k < P.length := by omega
      have hkl : lo ≤ k := by omega
      have hkh : k < hi := by omega
      have HK2 := Kept.mk hk
      clear hk
      have hPk : P[k] < L.length := HREF.out.ranked.lt _ (List.getElem_mem hkP)
      have hless := HREF.out.ranked.less s hkP
      obtain ⟨x, hx⟩ : ∃ x, x = L[P[k]] := ⟨_, rfl⟩
      have hxk : keyAt L P[k] = x := by rw [hx]; unfold keyAt; rw [List.getD_eq_getElem?_getD, List.getElem?_eq_getElem hPk]; rfl
      rw [hxk] at hless
      obtain ⟨gL, oL, rfl, hgL, qL⟩ := HL.out.at_ hPk
      obtain ⟨gP, oP, rfl, hgP, qP⟩ := HP.out.at_ (i := k) (by rw [natCs_length]; exact hkP)
      rw [← hx] at qL
      have qP : w.cell? ⟨gP, oP + k, none⟩ = some (.int .i64 (P[k] : Nat)) := by rw [qP]; simp [natCs]
      have y1 := cell_of_row w T 1 _ _ _ HREF.out.hT
      have y2 := cell_of_row w T 2 _ _ _ HREF.out.hT
      have HZ1 : Kept (∀ w1, Below wr.heap.size wr w1 → w1.cell? ⟨T, 1, none⟩ = some (.slice (some ⟨gL, oL, none⟩) L.length cL)) := ⟨fun w1 hB => by rw [(HB.out.trans (hB.mono HB.out.size)).cell (p := ⟨T, 1, none⟩) HREF.out.lt]; exact y1⟩
      have HZ2 : Kept (∀ w1, Below wr.heap.size wr w1 → w1.cell? ⟨T, 2, none⟩ = some (.slice (some ⟨gP, oP, none⟩) P.length cP)) := ⟨fun w1 hB => by rw [(HB.out.trans (hB.mono HB.out.size)).cell (p := ⟨T, 2, none⟩) HREF.out.lt]; exact y2⟩
      have HZ3 : Kept (∀ w1, Below wr.heap.size wr w1 → w1.cell? ⟨gP, oP + k, none⟩ = some (.int .i64 (P[k] : Nat))) := ⟨fun w1 hB => by rw [(HB.out.trans (hB.mono HB.out.size)).cell (p := ⟨gP, oP + k, none⟩) hgP]; exact qP⟩
      have HZ4 : Kept (∀ w1, Below wr.heap.size wr w1 → w1.cell? ⟨gL, oL + P[k], none⟩ = some (.string ⟨x.toArray⟩)) := ⟨fun w1 hB => by rw [(HB.out.trans (hB.mono HB.out.size)).cell (p := ⟨gL, oL + P[k], none⟩) hgL]; exact qL⟩
      have HRK := Kept.mk (HR.out.past HB.out)
      clear y1 y2 qL qP hx hxk z2
      go_upto_region 4 with fail
      by_cases hkr : k < rankOf L s
      · have HX : Kept (lessB x s = true) := ⟨by rw [hless]; simpa using hkr⟩
        clear hless
        refine region_tell (wr.heap.size) (G := fun _ => True) (ts := [
            .is (.pointer (some ⟨T, 0, none⟩)),
            .is (.pointer (some ⟨T, 0, none⟩)),
            .is (.pointer (some ⟨T, 1, none⟩)),
            .is (.slice (some ⟨gL, oL, none⟩) L.length cL),
            .is (.pointer (some ⟨T, 0, none⟩)),
            .is (.pointer (some ⟨T, 0, none⟩)),
            .is (.pointer (some ⟨T, 2, none⟩)),
            .is (.slice (some ⟨gP, oP, none⟩) P.length cP),
            .is (.int .i64 (k : Int)),
            .is (.pointer (some ⟨gP, oP + k, none⟩)),
            .is (.int .i64 (P[k] : Nat)),
            .is (.pointer (some ⟨gL, oL + P[k], none⟩)),
            .is (.string ⟨x.toArray⟩),
            .makes (fun v w' => ∃ A c, v = .slice A x.length c ∧ RdB w' A x),
            .is (.slice A n c),
            .is (.bool true)]) (fin := []) (cs := []) (by kernel_rfl) rfl (by kernel_rfl) (by kernel_rfl) ⟨trivial, trivial, trivial, trivial, trivial, trivial, trivial, trivial, trivial, trivial, trivial, trivial, trivial, (fun _ _ _ h hb => by obtain ⟨A, c, e, hr⟩ := h; exact ⟨A, c, e, hr.past hb⟩), trivial, trivial, trivial⟩ (fun _ _ _ _ => trivial) (by simp) (by simp) trivial
          ⟨?_, ?_, ?_, ?_, ?_, ?_, ?_, ?_, ?_, ?_, ?_, ?_, ?_, ?_, ?_, ?_, trivial⟩ ?_
        · intro vals w1 hB _ hd
          clear hd
          refine one_value (v := Value.pointer (some ⟨T, 0, none⟩)) rfl ?_ (post_is rfl)
          kernel_rfl
        · intro vals w1 hB _ hd
          clear hd
          refine one_value (v := Value.pointer (some ⟨T, 0, none⟩)) rfl ?_ (post_is rfl)
          refine Eq.trans (b := (execOp (Act.eval ⟨#[], []⟩) { dst := none, op := Op.nilCheck (.const (Value.pointer (some ⟨T, 0, none⟩))), type := 0, pos := "x", after := #[], guard := none }).run Try.prog w1) (by kernel_rfl) ?_; go_simp
        · intro vals w1 hB _ hd
          clear hd
          refine one_value (v := Value.pointer (some ⟨T, 1, none⟩)) rfl ?_ (post_is rfl)
          refine Eq.trans (b := (execOp (Act.eval ⟨#[], []⟩) { dst := none, op := Op.fieldAddr 45 (.const (Value.pointer (some ⟨T, 0, none⟩))) 1, type := 0, pos := "x", after := #[], guard := none }).run Try.prog w1) (by kernel_rfl) ?_; go_simp
        · intro vals w1 hB _ hd
          clear hd
          refine one_value (v := Value.slice (some ⟨gL, oL, none⟩) L.length cL) rfl ?_ (post_is rfl)
          have hz := HZ1.out w1 hB; refine Eq.trans (b := (execOp (Act.eval ⟨#[], []⟩) { dst := none, op := Op.load 43 (.const (Value.pointer (some ⟨T, 1, none⟩))), type := 0, pos := "x", after := #[], guard := none }).run Try.prog w1) (by kernel_rfl) ?_; go_simp
        · intro vals w1 hB _ hd
          clear hd
          refine one_value (v := Value.pointer (some ⟨T, 0, none⟩)) rfl ?_ (post_is rfl)
          kernel_rfl
        · intro vals w1 hB _ hd
          clear hd
          refine one_value (v := Value.pointer (some ⟨T, 0, none⟩)) rfl ?_ (post_is rfl)
          refine Eq.trans (b := (execOp (Act.eval ⟨#[], []⟩) { dst := none, op := Op.nilCheck (.const (Value.pointer (some ⟨T, 0, none⟩))), type := 0, pos := "x", after := #[], guard := none }).run Try.prog w1) (by kernel_rfl) ?_; go_simp
        · intro vals w1 hB _ hd
          clear hd
          refine one_value (v := Value.pointer (some ⟨T, 2, none⟩)) rfl ?_ (post_is rfl)
          refine Eq.trans (b := (execOp (Act.eval ⟨#[], []⟩) { dst := none, op := Op.fieldAddr 45 (.const (Value.pointer (some ⟨T, 0, none⟩))) 2, type := 0, pos := "x", after := #[], guard := none }).run Try.prog w1) (by kernel_rfl) ?_; go_simp
        · intro vals w1 hB _ hd
          clear hd
          refine one_value (v := Value.slice (some ⟨gP, oP, none⟩) P.length cP) rfl ?_ (post_is rfl)
          have hz := HZ2.out w1 hB; refine Eq.trans (b := (execOp (Act.eval ⟨#[], []⟩) { dst := none, op := Op.load 38 (.const (Value.pointer (some ⟨T, 2, none⟩))), type := 0, pos := "x", after := #[], guard := none }).run Try.prog w1) (by kernel_rfl) ?_; go_simp
        · intro vals w1 hB _ hd
          clear hd
          refine one_value (v := Value.int .i64 (k : Int)) rfl ?_ (post_is rfl)
          kernel_rfl
        · intro vals w1 hB _ hd
          clear hd
          refine one_value (v := Value.pointer (some ⟨gP, oP + k, none⟩)) rfl ?_ (post_is rfl)
          refine Eq.trans (b := (execOp (Act.eval ⟨#[], []⟩) { dst := none, op := Op.indexAddr 38 (.const (Value.slice (some ⟨gP, oP, none⟩) P.length cP)) (.const (Value.int .i64 (k : Int))), type := 0, pos := "x", after := #[], guard := none }).run Try.prog w1) (by kernel_rfl) ?_; go_simp; try (intro h; omega)
        · intro vals w1 hB _ hd
          clear hd
          refine one_value (v := Value.int .i64 (P[k] : Nat)) rfl ?_ (post_is rfl)
          have hz := HZ3.out w1 hB; refine Eq.trans (b := (execOp (Act.eval ⟨#[], []⟩) { dst := none, op := Op.load 3 (.const (Value.pointer (some ⟨gP, oP + k, none⟩))), type := 0, pos := "x", after := #[], guard := none }).run Try.prog w1) (by kernel_rfl) ?_; go_simp
        · intro vals w1 hB _ hd
          clear hd
          refine one_value (v := Value.pointer (some ⟨gL, oL + P[k], none⟩)) rfl ?_ (post_is rfl)
          refine Eq.trans (b := (execOp (Act.eval ⟨#[], []⟩) { dst := none, op := Op.indexAddr 43 (.const (Value.slice (some ⟨gL, oL, none⟩) L.length cL)) (.const (Value.int .i64 (P[k] : Nat))), type := 0, pos := "x", after := #[], guard := none }).run Try.prog w1) (by kernel_rfl) ?_; go_simp; try (intro h; omega)
        · intro vals w1 hB _ hd
          clear hd
          refine one_value (v := Value.string ⟨x.toArray⟩) rfl ?_ (post_is rfl)
          have hz := HZ4.out w1 hB; refine Eq.trans (b := (execOp (Act.eval ⟨#[], []⟩) { dst := none, op := Op.load 9 (.const (Value.pointer (some ⟨gL, oL + P[k], none⟩))), type := 0, pos := "x", after := #[], guard := none }).run Try.prog w1) (by kernel_rfl) ?_; go_simp
        · intro vals w1 hB _ hd
          clear hd
          exact one_conv rfl (by kernel_rfl) (fun A c w' hr hb => post_makes rfl ⟨A, c, rfl, hr⟩ hb)
        · intro vals w1 hB _ hd
          clear hd
          refine one_value (v := Value.slice A n c) rfl ?_ (post_is rfl)
          kernel_rfl
        · intro vals w1 hB _ hd
          refine one_calls (f := 13) (args := #[vals 13, .slice A n c]) (w1 := w1) rfl ?_ ?_
          · kernel_rfl
          obtain ⟨A', c', e', hr'⟩ : ∃ A' c', vals 13 = .slice A' x.length c' ∧ RdB w1 A' x := hd 13 (by kernel_rfl)
          rw [e']
          refine (ref_less A' A _ n c' c x s w1 rfl hl hr' (HRK.out.past hB)).mono ?_
          rintro e1 w2 ⟨rfl, hw⟩
          rw [HX.out, hw]
          exact ⟨_, rfl, post_is rfl⟩
        intro vals w1 hB _ hr
        simp only [fillT, Tell.is, Tell.makes, Act.put, List.setIfInBounds_toArray, List.set_cons_zero, List.set_cons_succ]
        go_wp2
        go_roundw
        case rel => exact ⟨k + 1, hi, by omega, by omega, by omega, by go_num, rfl, HB.out.trans (hB.mono HB.out.size)⟩
        case measure => simp [intOf]; omega
      · have HX : Kept (lessB x s = false) := ⟨by rw [hless]; simpa using hkr⟩
        clear hless
        refine region_tell (wr.heap.size) (G := fun _ => True) (ts := [
            .is (.pointer (some ⟨T, 0, none⟩)),
            .is (.pointer (some ⟨T, 0, none⟩)),
            .is (.pointer (some ⟨T, 1, none⟩)),
            .is (.slice (some ⟨gL, oL, none⟩) L.length cL),
            .is (.pointer (some ⟨T, 0, none⟩)),
            .is (.pointer (some ⟨T, 0, none⟩)),
            .is (.pointer (some ⟨T, 2, none⟩)),
            .is (.slice (some ⟨gP, oP, none⟩) P.length cP),
            .is (.int .i64 (k : Int)),
            .is (.pointer (some ⟨gP, oP + k, none⟩)),
            .is (.int .i64 (P[k] : Nat)),
            .is (.pointer (some ⟨gL, oL + P[k], none⟩)),
            .is (.string ⟨x.toArray⟩),
            .makes (fun v w' => ∃ A c, v = .slice A x.length c ∧ RdB w' A x),
            .is (.slice A n c),
            .is (.bool false)]) (fin := []) (cs := []) (by kernel_rfl) rfl (by kernel_rfl) (by kernel_rfl) ⟨trivial, trivial, trivial, trivial, trivial, trivial, trivial, trivial, trivial, trivial, trivial, trivial, trivial, (fun _ _ _ h hb => by obtain ⟨A, c, e, hr⟩ := h; exact ⟨A, c, e, hr.past hb⟩), trivial, trivial, trivial⟩ (fun _ _ _ _ => trivial) (by simp) (by simp) trivial
          ⟨?_, ?_, ?_, ?_, ?_, ?_, ?_, ?_, ?_, ?_, ?_, ?_, ?_, ?_, ?_, ?_, trivial⟩ ?_
        · intro vals w1 hB _ hd
          clear hd
          refine one_value (v := Value.pointer (some ⟨T, 0, none⟩)) rfl ?_ (post_is rfl)
          kernel_rfl
        · intro vals w1 hB _ hd
          clear hd
          refine one_value (v := Value.pointer (some ⟨T, 0, none⟩)) rfl ?_ (post_is rfl)
          refine Eq.trans (b := (execOp (Act.eval ⟨#[], []⟩) { dst := none, op := Op.nilCheck (.const (Value.pointer (some ⟨T, 0, none⟩))), type := 0, pos := "x", after := #[], guard := none }).run Try.prog w1) (by kernel_rfl) ?_; go_simp
        · intro vals w1 hB _ hd
          clear hd
          refine one_value (v := Value.pointer (some ⟨T, 1, none⟩)) rfl ?_ (post_is rfl)
          refine Eq.trans (b := (execOp (Act.eval ⟨#[], []⟩) { dst := none, op := Op.fieldAddr 45 (.const (Value.pointer (some ⟨T, 0, none⟩))) 1, type := 0, pos := "x", after := #[], guard := none }).run Try.prog w1) (by kernel_rfl) ?_; go_simp
        · intro vals w1 hB _ hd
          clear hd
          refine one_value (v := Value.slice (some ⟨gL, oL, none⟩) L.length cL) rfl ?_ (post_is rfl)
          have hz := HZ1.out w1 hB; refine Eq.trans (b := (execOp (Act.eval ⟨#[], []⟩) { dst := none, op := Op.load 43 (.const (Value.pointer (some ⟨T, 1, none⟩))), type := 0, pos := "x", after := #[], guard := none }).run Try.prog w1) (by kernel_rfl) ?_; go_simp
        · intro vals w1 hB _ hd
          clear hd
          refine one_value (v := Value.pointer (some ⟨T, 0, none⟩)) rfl ?_ (post_is rfl)
          kernel_rfl
        · intro vals w1 hB _ hd
          clear hd
          refine one_value (v := Value.pointer (some ⟨T, 0, none⟩)) rfl ?_ (post_is rfl)
          refine Eq.trans (b := (execOp (Act.eval ⟨#[], []⟩) { dst := none, op := Op.nilCheck (.const (Value.pointer (some ⟨T, 0, none⟩))), type := 0, pos := "x", after := #[], guard := none }).run Try.prog w1) (by kernel_rfl) ?_; go_simp
        · intro vals w1 hB _ hd
          clear hd
          refine one_value (v := Value.pointer (some ⟨T, 2, none⟩)) rfl ?_ (post_is rfl)
          refine Eq.trans (b := (execOp (Act.eval ⟨#[], []⟩) { dst := none, op := Op.fieldAddr 45 (.const (Value.pointer (some ⟨T, 0, none⟩))) 2, type := 0, pos := "x", after := #[], guard := none }).run Try.prog w1) (by kernel_rfl) ?_; go_simp
        · intro vals w1 hB _ hd
          clear hd
          refine one_value (v := Value.slice (some ⟨gP, oP, none⟩) P.length cP) rfl ?_ (post_is rfl)
          have hz := HZ2.out w1 hB; refine Eq.trans (b := (execOp (Act.eval ⟨#[], []⟩) { dst := none, op := Op.load 38 (.const (Value.pointer (some ⟨T, 2, none⟩))), type := 0, pos := "x", after := #[], guard := none }).run Try.prog w1) (by kernel_rfl) ?_; go_simp
        · intro vals w1 hB _ hd
          clear hd
          refine one_value (v := Value.int .i64 (k : Int)) rfl ?_ (post_is rfl)
          kernel_rfl
        · intro vals w1 hB _ hd
          clear hd
          refine one_value (v := Value.pointer (some ⟨gP, oP + k, none⟩)) rfl ?_ (post_is rfl)
          refine Eq.trans (b := (execOp (Act.eval ⟨#[], []⟩) { dst := none, op := Op.indexAddr 38 (.const (Value.slice (some ⟨gP, oP, none⟩) P.length cP)) (.const (Value.int .i64 (k : Int))), type := 0, pos := "x", after := #[], guard := none }).run Try.prog w1) (by kernel_rfl) ?_; go_simp; try (intro h; omega)
        · intro vals w1 hB _ hd
          clear hd
          refine one_value (v := Value.int .i64 (P[k] : Nat)) rfl ?_ (post_is rfl)
          have hz := HZ3.out w1 hB; refine Eq.trans (b := (execOp (Act.eval ⟨#[], []⟩) { dst := none, op := Op.load 3 (.const (Value.pointer (some ⟨gP, oP + k, none⟩))), type := 0, pos := "x", after := #[], guard := none }).run Try.prog w1) (by kernel_rfl) ?_; go_simp
        · intro vals w1 hB _ hd
          clear hd
          refine one_value (v := Value.pointer (some ⟨gL, oL + P[k], none⟩)) rfl ?_ (post_is rfl)
          refine Eq.trans (b := (execOp (Act.eval ⟨#[], []⟩) { dst := none, op := Op.indexAddr 43 (.const (Value.slice (some ⟨gL, oL, none⟩) L.length cL)) (.const (Value.int .i64 (P[k] : Nat))), type := 0, pos := "x", after := #[], guard := none }).run Try.prog w1) (by kernel_rfl) ?_; go_simp; try (intro h; omega)
        · intro vals w1 hB _ hd
          clear hd
          refine one_value (v := Value.string ⟨x.toArray⟩) rfl ?_ (post_is rfl)
          have hz := HZ4.out w1 hB; refine Eq.trans (b := (execOp (Act.eval ⟨#[], []⟩) { dst := none, op := Op.load 9 (.const (Value.pointer (some ⟨gL, oL + P[k], none⟩))), type := 0, pos := "x", after := #[], guard := none }).run Try.prog w1) (by kernel_rfl) ?_; go_simp
        · intro vals w1 hB _ hd
          clear hd
          exact one_conv rfl (by kernel_rfl) (fun A c w' hr hb => post_makes rfl ⟨A, c, rfl, hr⟩ hb)
        · intro vals w1 hB _ hd
          clear hd
          refine one_value (v := Value.slice A n c) rfl ?_ (post_is rfl)
          kernel_rfl
        · intro vals w1 hB _ hd
          refine one_calls (f := 13) (args := #[vals 13, .slice A n c]) (w1 := w1) rfl ?_ ?_
          · kernel_rfl
          obtain ⟨A', c', e', hr'⟩ : ∃ A' c', vals 13 = .slice A' x.length c' ∧ RdB w1 A' x := hd 13 (by kernel_rfl)
          rw [e']
          refine (ref_less A' A _ n c' c x s w1 rfl hl hr' (HRK.out.past hB)).mono ?_
          rintro e1 w2 ⟨rfl, hw⟩
          rw [HX.out, hw]
          exact ⟨_, rfl, post_is rfl⟩
        intro vals w1 hB _ hr
        simp only [fillT, Tell.is, Tell.makes, Act.put, List.setIfInBounds_toArray, List.set_cons_zero, List.set_cons_succ]
        go_wp2
        go_roundw
        case rel => exact ⟨lo, k, by omega, by omega, by omega, rfl, rfl, HB.out.trans (hB.mono HB.out.size)⟩
        case measure => simp [intOf]; omega
    · have hlo : lo = rankOf L s := by omega
      subst hlo
      go_wp2_with fail
      go_ret
      exact ⟨rfl, HB.out⟩
end Go.Proofs.Ytonlefopjpdecaa
