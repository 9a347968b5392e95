/- The document's own set: a new key put into it. -/
import Derived.Test.YtonlefopjpdecaaRefn
namespace Go.Proofs.Ytonlefopjpdecaa
open Go.RowKit Go.Maps

theorem append_int_loc {ops : Array Oper} {rest : List Oper} {o : Oper} {a : Act} {Q : Exit → Act → World → Prop} (W : World) (hgd : o.guard = none) (s x : Operand)
    (ho : o.op = .call { callee := .builtin .append, args := #[s, x], argTypes := #[38, 38] }) (B : Nat) {v : Value} {l : List Int} (hs : a.eval s = v) (hown : OwnI W B v l) (g : Nat) (n : Int)
    (hx : a.eval x = .slice (some ⟨g, 0, none⟩) 1 1) (hg : W.heap[g]? = some (.cells #[.int .i64 n] 3 (0, 0))) (hl : l.length < 10000000) (hB : B ≤ W.heap.size)
    (h : ∀ v' w', OwnI w' B v' (l ++ [n]) → W.grownBy w' v.ownBlock → (v'.ownBlock = v.ownBlock ∨ v'.ownBlock = some W.heap.size) → wpList Try.prog ops Q rest (a.put o.dst v') w') : wpList Try.prog ops Q (o :: rest) a W := by
  obtain ⟨i0, hi0, hz0, hz1, hz2⟩ := info_parts info_int
  refine wpList_append_any W hgd s x _ ho B 3 i0 _ 1 8 Try.underlying38 hi0 hz0 hz1 hz2 rfl (by omega) v l.length (intCs l) hs hown W.heap.size (some ⟨g, 0, none⟩) 1 1 (intCs [n]) hx (reads_block hg rfl) (intCs_one_cell [n])
    (by simp only [maxLen]; omega) (by omega) hB fun v' w' h1 h2 h3 => h v' w' ?_ h2 h3
  unfold OwnI
  rw [intCs_append, List.length_append]
  exact h1
section
variable {w : World} {B T : Nat} {vL vP : Value} {most : Nat} {L : List (List UInt8)} {P : List Nat}
theorem RefAt.drewN (h : RefAt w B T vL vP most L P) (k : Nat) : RefAt (w.drewN k) B T vL vP most L P := ⟨h.bT, h.hT, h.keys, h.ranks, h.ranked, h.nd, h.le, h.big⟩
theorem RefAt.ownP (h : RefAt w B T vL vP most L P) : vP.ownBlock ≠ some T := by
  intro e
  rcases h.ranks.2 with ⟨hv, _⟩ | ⟨g, cap, cur, hv, _, hg, _⟩
  · rw [hv] at e; simp [Value.ownBlock] at e
  · rw [hv] at e
    simp [Value.ownBlock] at e
    rw [e, h.hT] at hg
    simp at hg
theorem RefAt.ownL (h : RefAt w B T vL vP most L P) : vL.ownBlock ≠ some T := by
  intro e
  rcases h.keys.2 with ⟨hv, _⟩ | ⟨g, cap, cur, hv, _, hg, _⟩
  · rw [hv] at e; simp [Value.ownBlock] at e
  · rw [hv] at e
    simp [Value.ownBlock] at e
    rw [e, h.hT] at hg
    simp at hg
end
theorem TouchR.drew {w ws : World} {T : Nat} {vL vP : Value} (t : TouchR w ws T vL vP) : TouchR w ws.drew T vL vP := ⟨t.os, t.tape, t.output, t.size, t.block⟩
theorem TouchR.below {w w' : World} {B T : Nat} {vL vP : Value} {most : Nat} {L : List (List UInt8)} {P : List Nat} (h : RefAt w B T vL vP most L P) (t : TouchR w w' T vL vP) (hB : B ≤ w.heap.size) : Below B w w' :=
  ⟨t.os, t.tape, t.output, t.size, fun k hk => t.block k (by omega) (by have := h.bT; omega) (fun e => by have := (World.ownsRow.lt h.keys k e.symm).1; omega) (fun e => by have := (World.ownsRow.lt h.ranks k e.symm).1; omega)⟩
/-- A row of strings and a row of numbers do not lie in one block. -/
theorem rows_apart {w : World} {B B' : Nat} {vL vP : Value} {L : List (List UInt8)} {Q : List Int} (hL : OwnS w B vL L) (hP : OwnI w B' vP Q) {g : Nat} (h1 : vL.ownBlock = some g) : vP.ownBlock ≠ some g := by
  intro h2
  rcases hL.2 with ⟨hv, _⟩ | ⟨g1, cap, cur, hv, _, hg, _⟩
  · rw [hv] at h1; simp [Value.ownBlock] at h1
  · rcases hP.2 with ⟨hv', _⟩ | ⟨g2, cap', cur', hv', _, hg', _⟩
    · rw [hv'] at h2; simp [Value.ownBlock] at h2
    · rw [hv] at h1
      rw [hv'] at h2
      simp [Value.ownBlock] at h1 h2
      rw [h1] at hg
      rw [h2, hg] at hg'
      simp at hg'
def shift (P : List Nat) (i : Nat) : List Int := (natCs P ++ [0]).take (i + 1) ++ (natCs P).drop i
theorem shift_length (P : List Nat) {i : Nat} (h : i ≤ P.length) : (shift P i).length = P.length + 1 := by
  unfold shift
  rw [List.length_append, List.length_take, List.length_drop, List.length_append, natCs_length]
  simp
  omega
theorem shift_start (P : List Nat) : shift P P.length = natCs P ++ [0] := by
  unfold shift
  rw [List.take_of_length_le (by rw [List.length_append, natCs_length]; simp), List.drop_of_length_le (by rw [natCs_length]; exact Nat.le_refl _), List.append_nil]
theorem shift_get (P : List Nat) {j : Nat} (h : j < P.length) : (shift P (j + 1))[j]'(by rw [shift_length P (by omega)]; omega) = (P[j] : Nat) := by
  unfold shift
  rw [List.getElem_append_left (by rw [List.length_take, List.length_append, natCs_length]; simp; omega), List.getElem_take, List.getElem_append_left (by rw [natCs_length]; exact h)]
  simp [natCs]
theorem shift_step (P : List Nat) {j : Nat} (h : j < P.length) : (shift P (j + 1)).set (j + 1) (P[j] : Nat) = shift P j := by
  have hl : (natCs P ++ [0]).length = P.length + 1 := by rw [List.length_append, natCs_length]; rfl
  have hj : j < (natCs P).length := by rw [natCs_length]; exact h
  unfold shift
  rw [List.set_append_left _ _ (by rw [List.length_take, hl]; omega), List.take_succ_eq_append_getElem (by rw [hl]; omega), List.set_append_right _ _ (by rw [List.length_take, hl]; omega)]
  rw [List.drop_eq_getElem_cons hj]
  have e0 : j + 1 - ((natCs P ++ [0]).take (j + 1)).length = 0 := by rw [List.length_take, hl]; omega
  rw [e0, List.set_cons_zero, List.append_assoc]
  simp [natCs]
theorem shift_end (P : List Nat) {k : Nat} (h : k ≤ P.length) (x : Nat) : (shift P k).set k (x : Nat) = natCs (P.take k ++ x :: P.drop k) := by
  have hl : (natCs P ++ [0]).length = P.length + 1 := by rw [List.length_append, natCs_length]; rfl
  unfold shift
  rw [List.set_append_left _ _ (by rw [List.length_take, hl]; omega), List.take_succ_eq_append_getElem (by rw [hl]; omega), List.set_append_right _ _ (by rw [List.length_take, hl]; omega)]
  have e0 : k - ((natCs P ++ [0]).take k).length = 0 := by rw [List.length_take, hl]; omega
  rw [e0, List.set_cons_zero, List.take_append_of_le_length (by rw [natCs_length]; exact h)]
  simp [natCs, List.map_take, List.map_drop]

set_option maxRecDepth 100000 in
set_option maxHeartbeats 4000000 in
theorem radd_new {w : World} {B T : Nat} {vL vP : Value} {most : Nat} {L : List (List UInt8)} {P : List Nat} (h : RefAt w B T vL vP most L P) (A : Option Addr) (n c : Nat) (s : List UInt8) (hl : s.length = n) (hr : Reads w B 1 A s.length (bytCs s)) (hB : B ≤ w.heap.size) (hin : s ∉ L) (hroom : L.length < most) :
    Calls Try.prog 18 #[.pointer (some ⟨T, 0, none⟩), .slice A n c] w fun en w' => en = .returned (.tuple #[.int .i64 (L.length : Nat), .bool true, .bool true]) ∧ ∃ vL' vP', RefAt w' B T vL' vP' most (L ++ [s]) (P.take (rankOf L s) ++ L.length :: P.drop (rankOf L s)) ∧ TouchR w w' T vL vP ∧
      (vL'.ownBlock = vL.ownBlock ∨ ∃ g, vL'.ownBlock = some g ∧ w.heap.size ≤ g) ∧ (vP'.ownBlock = vP.ownBlock ∨ ∃ g, vP'.ownBlock = some g ∧ w.heap.size ≤ g) := by
  have HREF := Kept.mk h
  have HRB := Kept.mk hr
  have HR : Kept (RdB w A s) := ⟨Reads.more hr hB⟩
  clear hr
  go_enter Try.func18, Try.ntmps18
  go_wp2_with fail
  refine (find_is HREF.out A n c s hl HR.out).mono ?_
  rintro en wp ⟨rfl, hb⟩
  rw [decide_eq_false hin]
  have hp := HREF.out.past hb
  obtain ⟨AL, cL, AP, cP, rfl, rfl, hcL, hcP, rL, rP⟩ := hp.shapes
  have z0 := cell_of_row wp T 0 _ _ _ hp.hT
  have z1 := cell_of_row wp T 1 _ _ _ hp.hT
  have hge : (L.length : Int) < (most : Int) := by omega
  have HB := Kept.mk hb
  have HPP := Kept.mk hp
  have HR1 := Kept.mk (HR.out.past hb)
  clear hb hp rL rP h
  go_wp2_with fail
  go_quiet (fail)
  go_wp2_with fail
  refine (place_is (HPP.out.drewN _) A n c s hl (Reads.drewN HR1.out _)).mono ?_
  rintro en wq ⟨rfl, hb⟩
  have HQ := Kept.mk ((HPP.out.drewN _).past hb)
  have HT0 : Kept (TouchR w wq T (.slice AL L.length cL) (.slice AP P.length cP)) := ⟨(TouchR.of_below (below_drewN HB.out _)).past hb⟩
  have HSZ : Kept (w.heap.size ≤ wq.heap.size) := ⟨HT0.out.size⟩
  have HPLL := Kept.mk HQ.out.ranked.length
  have hle := HQ.out.le
  have hbig := HQ.out.big
  have hrk := rank_le L s
  have y2 := cell_of_row wq T 2 _ _ _ HQ.out.hT
  have y2' : (wq.alloc (.cells #[.int .i64 0] 3)).cell? ⟨T, 2, none⟩ = some (.slice AP P.length cP) := ((below_alloc_self wq _).cell (p := ⟨T, 2, none⟩) HQ.out.lt).trans y2
  have HTT := Kept.mk HQ.out.hT
  clear hb z0 z1 HB HPP HR1
  go_wp2_with (at_builtin; go_must (refine append_int_loc _ rfl (.tmp 36) (.tmp 37) rfl B rfl (by have := HQ.out.ranks.past (below_alloc_self wq (.cells #[.int .i64 0] 3)); exact this) _ 0 rfl (heap_at_new rfl) ?c0 ?c1 ?_))
  case c0 => rw [natCs_length]; have := HPLL.out; omega
  case c1 => have := HSZ.out; simp; omega
  intro v1 w1 ho1 hg1 hloc1
  have hlen1 : (natCs P ++ [0]).length = P.length + 1 := by rw [List.length_append, natCs_length]; rfl
  obtain ⟨A1, c1, rfl, hc1, -⟩ := ho1.shape
  rw [hlen1] at hc1 hloc1 ho1 ⊢
  obtain ⟨g, rfl, hgB, hgl, -, -⟩ := ho1.elem (k := 0) (by rw [hlen1]; omega)
  have hT1 : w1.heap[T]? = some (.cells #[.int .i64 (most : Nat), .slice AL L.length cL, .slice AP P.length cP] 45 (0, 0)) := (hg1.block T (Nat.lt_of_lt_of_le HQ.out.lt (by simp)) (Ne.symm HQ.out.ownP)).trans ((heap_alloc_old _ _ HQ.out.lt).trans HTT.out)
  have HT1 := Kept.mk hT1
  have t1 : TouchR w w1 T (.slice AL L.length cL) (.slice AP P.length cP) := (HT0.out.past (below_alloc_self wq (.cells #[.int .i64 0] 3))).step hg1 (fun g h => .inr (.inr (.inl h.symm)))
  have HT1' := Kept.mk (t1.step (grown_setCell w1 ⟨T, 2, none⟩ (.slice (some ⟨g, 0, none⟩) (P.length + 1) c1)) (fun g h => by injection h with h; exact .inl h.symm))
  have hgT : g ≠ T := by
    intro e
    have h2 : w1.heap.size ≤ w1.heap.size := Nat.le_refl _
    rcases ho1.2 with ⟨hv, _⟩ | ⟨g', cap, cur, hv, _, hg', _⟩
    · simp at hv
    · simp only [Value.slice.injEq, Option.some.injEq, Addr.mk.injEq, and_true] at hv
      rw [← hv.1, e, hT1] at hg'
      simp at hg'
  have hO1 : Kept (OwnI (w1.setCell ⟨T, 2, none⟩ (.slice (some ⟨g, 0, none⟩) (P.length + 1) c1)) B (.slice (some ⟨g, 0, none⟩) (P.length + 1) c1) (shift P P.length)) := ⟨by rw [shift_start]; exact World.ownsRow.kept ho1 (grown_setCell w1 _ _) (.inr (by simpa [Value.ownBlock] using hgT))⟩
  have hL1 : OwnS w1 B (.slice AL L.length cL) L := World.ownsRow.kept (HQ.out.keys.past (below_alloc_self wq (.cells #[.int .i64 0] 3))) hg1 (by
    by_cases hx : ∃ x, (Value.slice AL L.length cL).ownBlock = some x
    · obtain ⟨x, hx⟩ := hx
      refine .inr ?_
      rw [hx]
      exact fun e => rows_apart HQ.out.keys HQ.out.ranks hx e.symm
    · exact .inl (by cases hh : (Value.slice AL L.length cL).ownBlock with | none => rfl | some x => exact absurd ⟨x, hh⟩ hx))
  have hL1' : Kept (OwnS (w1.setCell ⟨T, 2, none⟩ (.slice (some ⟨g, 0, none⟩) (P.length + 1) c1)) B (.slice AL L.length cL) L) := ⟨World.ownsRow.kept hL1 (grown_setCell w1 _ _) (.inr HQ.out.ownL)⟩
  have f2 := cell_of_row w1 T 2 _ _ _ hT1
  have fz2 := not_frozen (j := 2) hT1
  have hT2 : Kept ((w1.setCell ⟨T, 2, none⟩ (.slice (some ⟨g, 0, none⟩) (P.length + 1) c1)).heap[T]? = some (.cells #[.int .i64 (most : Nat), .slice AL L.length cL, .slice (some ⟨g, 0, none⟩) (P.length + 1) c1] 45 (0, 0))) := ⟨heap_setCell_same w1 T 2 _ _ _ hT1⟩
  have HLOC : Kept (some g = (Value.slice AP P.length cP).ownBlock ∨ wq.heap.size ≤ g) := ⟨by
    rcases hloc1 with e | e
    · exact .inl e
    · simp [Value.ownBlock] at e; exact .inr (by omega)⟩
  have wl : IntKind.i64.wrap ((P.length : Int) + 1 - 1) = (P.length : Int) := by rw [IntWalk.i64_in _ (by have := HPLL.out; omega)]; omega
  have HW3 : Kept (wrap64 (P.length : Int) = (P.length : Int)) := ⟨IntWalk.wrap64_in _ (by have := HPLL.out; omega)⟩
  clear ho1 hg1 hloc1 hT1 t1 hL1 y2 y2' hlen1 HT1
  go_wp2_with fail
  go_loopw [10] (fun iv wr => ∃ i : Nat, rankOf L s ≤ i ∧ i ≤ P.length ∧ iv = .int .i64 i ∧ OwnI wr B (.slice (some ⟨g, 0, none⟩) (P.length + 1) c1) (shift P i) ∧ OwnS wr B (.slice AL L.length cL) L ∧
    Kept (wr.heap[T]? = some (.cells #[.int .i64 (most : Nat), .slice AL L.length cL, .slice (some ⟨g, 0, none⟩) (P.length + 1) c1] 45 (0, 0))) ∧ TouchR w wr T (.slice AL L.length cL) (.slice AP P.length cP)) (fun iv _ => (intOf iv).toNat)
  case atStart => exact ⟨P.length, by have := HPLL.out; omega, Nat.le_refl _, by first | rfl | rw [HW3.out], hO1.out, hL1'.out, hT2, HT1'.out⟩
  case round =>
    obtain ⟨i, hi1, hi2, rfl, hoi, hos, hT, ht⟩ := hrel
    have HOI := Kept.mk hoi
    have HOS := Kept.mk hos
    have HTO := Kept.mk ht
    have hP6 : P.length ≤ 1000000 := by have := HPLL.out; omega
    clear hoi hos ht hO1 hL1' hT2 HT1' f2 fz2 HT0
    by_cases hlt : rankOf L s < i
    · obtain ⟨j, rfl⟩ : ∃ j, i = j + 1 := ⟨i - 1, by omega⟩
      have hjP : j < P.length := by omega
      have yT := cell_of_row wr T 2 _ _ _ hT.out
      obtain ⟨g', e', _, _, ya, _⟩ := HOI.out.elem (k := j) (by rw [shift_length P hi2]; omega)
      cases e'
      obtain ⟨g', e', _, _, yb, hfz⟩ := HOI.out.elem (k := j + 1) (by rw [shift_length P hi2]; omega)
      cases e'
      rw [shift_get P hjP] at ya
      have wa : IntKind.i64.wrap ((j : Int) + 1 - 1) = (j : Int) := by rw [IntWalk.i64_in _ (by omega)]; omega
      have wb : IntKind.i64.wrap (j : Int) = (j : Int) := IntWalk.i64_in _ (by omega)
      have hb1 : (j : Int) < (P.length : Int) + 1 := by omega
      have hb2 : (j : Int) + 1 < (P.length : Int) + 1 := by omega
      have hlti : (rankOf L s : Int) < (j : Int) + 1 := by omega
      go_upto_region 11 with fail
      go_region
      have hLg : (Value.slice AL L.length cL).ownBlock ≠ some g := fun e => rows_apart HOS.out HOI.out e rfl
      have n1 : OwnI (wr.setCell ⟨g, j + 1, none⟩ (.int .i64 (P[j] : Nat))) B (.slice (some ⟨g, 0, none⟩) (P.length + 1) c1) (shift P j) := by
        have := HOI.out.setAt (shift_length P hi2).symm (j + 1) (P[j] : Nat)
        rwa [shift_step P hjP] at this
      have n2 : OwnS (wr.setCell ⟨g, j + 1, none⟩ (.int .i64 (P[j] : Nat))) B (.slice AL L.length cL) L := World.ownsRow.kept HOS.out (grown_setCell wr _ _) (.inr hLg)
      have n3 : Kept ((wr.setCell ⟨g, j + 1, none⟩ (.int .i64 (P[j] : Nat))).heap[T]? = some (.cells #[.int .i64 (most : Nat), .slice AL L.length cL, .slice (some ⟨g, 0, none⟩) (P.length + 1) c1] 45 (0, 0))) := ⟨(heap_setCell_other wr _ T _ (Ne.symm hgT)).trans hT.out⟩
      have n4 : TouchR w (wr.setCell ⟨g, j + 1, none⟩ (.int .i64 (P[j] : Nat))) T (.slice AL L.length cL) (.slice AP P.length cP) := HTO.out.step (grown_setCell wr _ _) (fun x h => by
        injection h with h
        subst h
        rcases HLOC.out with e | e
        · exact .inr (.inr (.inl e))
        · exact .inr (.inr (.inr (Nat.le_trans HSZ.out e))))
      have N1 := Kept.mk n1
      have N2 := Kept.mk n2
      have N4 := Kept.mk n4
      clear n1 n2 n4 hLg ya yb hfz yT
      go_wp2_with fail
      go_roundw
      case rel => exact ⟨j, by omega, by omega, rfl, N1.out, N2.out, n3, N4.out.drew⟩
      case measure => simp [intOf]
    · have hiR : i = rankOf L s := by omega
      subst hiR
      have y1 := cell_of_row wr T 1 _ _ _ hT.out
      have y2 := cell_of_row wr T 2 _ _ _ hT.out
      obtain ⟨g', e', _, _, yb, hfz⟩ := HOI.out.elem (k := rankOf L s) (by rw [shift_length P hi2]; omega)
      cases e'
      have hb1 : (rankOf L s : Int) < (P.length : Int) + 1 := by omega
      go_upto_region 12 with fail
      go_region
      have hLg : (Value.slice AL L.length cL).ownBlock ≠ some g := fun e => rows_apart HOS.out HOI.out e rfl
      have n1 : OwnI (wr.setCell ⟨g, rankOf L s, none⟩ (.int .i64 (L.length : Nat))) B (.slice (some ⟨g, 0, none⟩) (P.length + 1) c1) (natCs (P.take (rankOf L s) ++ L.length :: P.drop (rankOf L s))) := by
        have := HOI.out.setAt (shift_length P hi2).symm (rankOf L s) (L.length : Nat)
        rwa [shift_end P hi2] at this
      have n2 : OwnS (wr.setCell ⟨g, rankOf L s, none⟩ (.int .i64 (L.length : Nat))) B (.slice AL L.length cL) L := World.ownsRow.kept HOS.out (grown_setCell wr _ _) (.inr hLg)
      have n3 : (wr.setCell ⟨g, rankOf L s, none⟩ (.int .i64 (L.length : Nat))).heap[T]? = some (.cells #[.int .i64 (most : Nat), .slice AL L.length cL, .slice (some ⟨g, 0, none⟩) (P.length + 1) c1] 45 (0, 0)) := (heap_setCell_other wr _ T _ (Ne.symm hgT)).trans hT.out
      have n4 : TouchR w (wr.setCell ⟨g, rankOf L s, none⟩ (.int .i64 (L.length : Nat))) T (.slice AL L.length cL) (.slice AP P.length cP) := HTO.out.step (grown_setCell wr _ _) (fun x h => by
        injection h with h
        subst h
        rcases HLOC.out with e | e
        · exact .inr (.inr (.inl e))
        · exact .inr (.inr (.inr (Nat.le_trans HSZ.out e))))
      obtain ⟨wx, hwx⟩ : ∃ wx : World, wx = (wr.setCell ⟨g, rankOf L s, none⟩ (.int .i64 (L.length : Nat))).drew := ⟨_, rfl⟩
      have N1 : Kept (OwnI wx B (.slice (some ⟨g, 0, none⟩) (P.length + 1) c1) (natCs (P.take (rankOf L s) ++ L.length :: P.drop (rankOf L s)))) := ⟨by rw [hwx]; exact n1⟩
      have N2 : Kept (OwnS wx B (.slice AL L.length cL) L) := ⟨by rw [hwx]; exact n2⟩
      have n3' : wx.heap[T]? = some (.cells #[.int .i64 (most : Nat), .slice AL L.length cL, .slice (some ⟨g, 0, none⟩) (P.length + 1) c1] 45 (0, 0)) := by rw [hwx]; exact n3
      have N4 : Kept (TouchR w wx T (.slice AL L.length cL) (.slice AP P.length cP)) := ⟨by rw [hwx]; exact n4.drew⟩
      rw [← hwx]
      have N3 := Kept.mk n3'
      have HBW : Kept (Below B w wx) := ⟨TouchR.below HREF.out N4.out hB⟩
      have HRX : Kept (RdB wx A s) := ⟨(HRB.out.below HBW.out).more (Nat.le_trans hB N4.out.size)⟩
      have HLG := Kept.mk hLg
      have f1 : wx.cell? ⟨T, 1, none⟩ = some (.slice AL L.length cL) := cell_of_row wx T 1 _ _ _ n3'
      have hTl : T < wx.heap.size := (Array.getElem?_eq_some_iff.1 n3').1
      have HTL := Kept.mk hTl
      have f1' : (wx.alloc (.cells #[.string ⟨s.toArray⟩] 9)).cell? ⟨T, 1, none⟩ = some (.slice AL L.length cL) := cell_of_row _ T 1 _ _ _ ((heap_alloc_old _ _ hTl).trans n3')
      have hst : (convert 25 9 (.slice A n c)).run Try.prog wx.drew = .ok (.string ⟨s.toArray⟩) wx.drew := run_string (w := wx.drew) (c := c) (Reads.drew HRX.out) hl
      obtain ⟨i0, hi0, hz0, hz1, hz2⟩ := info_parts info_string
      clear n1 n2 n3 n3' n4 hwx y1 y2 yb hfz hLg hT HOI HOS HTO hTl
      go_upto_region 13 with fail
      go_region_law (refine step_append_any rfl (.tmp 81) (.tmp 84) 43 rfl B 9 i0 _ 1 16 Try.underlying43 hi0 hz0 hz1 hz2 rfl (by omega) (.slice AL L.length cL) L.length (strCs L) (by simp [Act.eval]) (OwnS.past (w := wx.drew) N2.out (below_alloc_self _ _)) _ (some ⟨wx.heap.size, 0, Option.none⟩) 1 1 (strCs [s]) (by simp [Act.eval]) (reads_block (heap_at_new rfl) rfl) (strCs_one_cell [s]) (by unfold maxLen; omega) (by omega) (by have := HBW.out.size; simp; omega) ?_; intro v8 w8 g1 g2 g3; obtain ⟨A8, c8, rfl, hc8, -⟩ := own_shape g1; have hT8 := Kept.mk ((g2.block T (Nat.lt_of_lt_of_le HTL.out (by simp)) (Ne.symm HQ.out.ownL)).trans ((heap_alloc_old _ _ HTL.out).trans N3.out)); have f8 := cell_of_row w8 T 1 _ _ _ hT8.out; have fz8 := not_frozen (j := 1) hT8.out)
      all_goals
        have hown : OwnS w8 B (.slice A8 (L.length + 1) c8) (L ++ [s]) := by
          unfold OwnS
          rw [strCs_append, List.length_append]
          exact g1
        have hv8 : (Value.slice A8 (L.length + 1) c8).ownBlock ≠ some T := by
          rcases g3 with e | e
          · rw [e]; exact HQ.out.ownL
          · rw [e]
            have h1 := HTL.out
            simp [World.drew]
            omega
        have hI8 : OwnI w8 B (.slice (some ⟨g, 0, none⟩) (P.length + 1) c1) (natCs (P.take (rankOf L s) ++ L.length :: P.drop (rankOf L s))) :=
          World.ownsRow.kept (own_past (w := wx.drew) N1.out (below_alloc_self _ _)) g2 (.inr (Ne.symm HLG.out))
        have hREF : RefAt (w8.setCell ⟨T, 1, none⟩ (.slice A8 (L.length + 1) c8)) B T (.slice A8 (L.length + 1) c8) (.slice (some ⟨g, 0, none⟩) (P.length + 1) c1) most (L ++ [s]) (P.take (rankOf L s) ++ L.length :: P.drop (rankOf L s)) := by
          refine ⟨HQ.out.bT, heap_setCell_same w8 T 1 _ _ _ hT8.out, World.ownsRow.kept hown (grown_setCell w8 _ _) (.inr hv8), World.ownsRow.kept hI8 (grown_setCell w8 _ _) (.inr (by simpa [Value.ownBlock] using hgT)), HQ.out.ranked.insert hin, ?_, by simp; omega, HQ.out.big⟩
          rw [List.nodup_append]
          exact ⟨HQ.out.nd, by simp, fun a ha b hb => by rw [List.mem_singleton.1 hb]; exact fun e => hin (e ▸ ha)⟩
        have hT : TouchR w (w8.setCell ⟨T, 1, none⟩ (.slice A8 (L.length + 1) c8)) T (.slice AL L.length cL) (.slice AP P.length cP) :=
          (((N4.out.drew).past (below_alloc_self wx.drew (.cells #[.string ⟨s.toArray⟩] 9))).step g2 (fun x h => .inr (.inl h.symm))).step (grown_setCell w8 ⟨T, 1, none⟩ (.slice A8 (L.length + 1) c8)) (fun x h => by injection h with h; exact .inl h.symm)
        have hO : (Value.slice A8 (L.length + 1) c8).ownBlock = (Value.slice AL L.length cL).ownBlock ∨ ∃ g, (Value.slice A8 (L.length + 1) c8).ownBlock = some g ∧ w.heap.size ≤ g := by
          rcases g3 with e | e
          · exact .inl e
          · exact .inr ⟨_, e, by have h1 := N4.out.size; simp [World.drew]; omega⟩
        have hO2 : (Value.slice (some ⟨g, 0, none⟩) (P.length + 1) c1).ownBlock = (Value.slice AP P.length cP).ownBlock ∨ ∃ x, (Value.slice (some ⟨g, 0, none⟩) (P.length + 1) c1).ownBlock = some x ∧ w.heap.size ≤ x := by
          rcases HLOC.out with e | e
          · exact .inl e
          · exact .inr ⟨g, rfl, Nat.le_trans HSZ.out e⟩
        have HF := Kept.mk (And.intro hREF (And.intro hT (And.intro hO hO2)))
        have HWL : Kept (wrap64 (L.length : Int) = (L.length : Int)) := ⟨IntWalk.wrap64_in _ (by omega)⟩
        clear hown hv8 hI8 hREF hT hO hO2 fz8 f1 f1' hst g1 g2 g3
        go_wp2_with fail
        exact at_ret _ [.int .i64 (L.length : Nat), .bool true, .bool true] Try.results18 (.cons (.tmp (by first | rfl | (show Value.int .i64 (wrap64 _) = _; rw [HWL.out]))) (.cons (.tmp rfl) (.cons (.tmp rfl) .nil))) rfl ⟨rfl, _, _, HF.out⟩
end Go.Proofs.Ytonlefopjpdecaa
