/- The law FetcReturns. -/
import Derived.Test.YtchldbkjapnlcaaJRtab
import Derived.Test.YtchldbkjapnlcaaJo
import Derived.Test.YtchldbkjapnlcaaJg
import Derived.Test.YtchldbkjapnlcaaJs
import Derived.Test.YtchldbkjapnlcaaJb
import Derived.Test.YtchldbkjapnlcaaJc
import Derived.Lib.MinMax
set_option linter.unusedVariables false
set_option linter.unusedSimpArgs false
namespace Go.Proofs.Ytchldbkjapnlcaa
open Go.RowKit

theorem info_insR : (Try.prog.info? 53).map (fun i => (i.zero, i.size, i.bytes)) = some (some (.agg #[.int .i64 0, .int .i64 0, .int .i64 0, .bool false, .int .i64 0, .bool false, .int .i64 0, .string ⟨#[]⟩, .int .i64 0]), 9, 80) := by kernel_rfl
def OwnR (w : World) (B : Nat) (v : Value) (l : List Inst) : Prop := w.ownsRow B 53 9 v l.length (instCs l)
theorem OwnR.past {w w' : World} {B : Nat} {v : Value} {l : List Inst} (h : OwnR w B v l) (hb : Below w.heap.size w w') : OwnR w' B v l := own_past h hb
theorem append_inst {ops : Array Oper} {rest : List Oper} {o : Oper} {a : Act} {Q : Exit → Act → World → Prop} (W : World) (hgd : o.guard = none) (s x : Operand)
    (ho : o.op = .call { callee := .builtin .append, args := #[s, x], argTypes := #[31, 31] }) (B : Nat) {v : Value} {l : List Inst} (hs : a.eval s = v) (hown : OwnR W B v l) (g : Nat) (e : Inst)
    (hx : a.eval x = .slice (some ⟨g, 0, none⟩) 1 1) (hg : W.heap[g]? = some (.cells e.cs.toArray 53 (0, 0))) (hl : l.length < 1000000) (hB : B ≤ W.heap.size)
    (h : ∀ v' w', OwnR w' B v' (l ++ [e]) → W.grownBy w' v.ownBlock → Below B W w' → wpList Try.prog ops Q rest (a.put o.dst v') w') : wpList Try.prog ops Q (o :: rest) a W := by
  obtain ⟨i0, hi0, hz0, hz1, hz2⟩ := info_parts info_insR
  refine wpList_append_any W hgd s x _ ho B 53 i0 _ 9 80 Try.underlying31 hi0 hz0 hz1 hz2 rfl (by omega) v l.length (instCs l) hs hown W.heap.size (some ⟨g, 0, none⟩) 1 1 e.cs hx (reads_block hg rfl) (by simp [Inst.cs, Value.oneCell'])
    (by simp only [maxLen]; omega) (by omega) hB fun v' w' h1 h2 _ => h v' w' ?_ h2 ((Below.refl _ _).grown h2 hB (fun k hk => (World.ownsRow.lt hown k hk).1))
  unfold OwnR
  rw [show instCs (l ++ [e]) = instCs l ++ e.cs by simp [instCs], List.length_append]
  exact h1
set_option maxRecDepth 100000 in
set_option maxHeartbeats 2000000 in
theorem st10 {x0 x1 x2 x3 xpc xf : Int} {xmA xsA xbA xqA : Option Addr} {xmN xmC xsN xsC xbN xbC xqN xqC : Nat} {c0 c1 c2 c3 cpc cf : Int} {cmA csA cbA cqA : Option Addr} {cmN cmC csN csC cbN cbC cqN cqC : Nat} (w : World) (S5 : Nat) (X : w.heap[S5]? = some (.cells #[.int .i64 c0, .int .i64 c1, .int .i64 c2, .int .i64 c3, .slice cmA cmN cmC, .slice csA csN csC, .int .i64 cpc, .slice cbA cbN cbC, .slice cqA cqN cqC, .int .i64 cf] 41 (0, 0))) :
    (((((((((((w).setCell ⟨S5, 0, none⟩ (.int .i64 x0)).setCell ⟨S5, 1, none⟩ (.int .i64 x1)).setCell ⟨S5, 2, none⟩ (.int .i64 x2)).setCell ⟨S5, 3, none⟩ (.int .i64 x3)).setCell ⟨S5, 4, none⟩ (.slice xmA xmN xmC)).setCell ⟨S5, 5, none⟩ (.slice xsA xsN xsC)).setCell ⟨S5, 6, none⟩ (.int .i64 xpc)).setCell ⟨S5, 7, none⟩ (.slice xbA xbN xbC)).setCell ⟨S5, 8, none⟩ (.slice xqA xqN xqC)).setCell ⟨S5, 9, none⟩ (.int .i64 xf)).heap[S5]? = some (.cells #[.int .i64 x0, .int .i64 x1, .int .i64 x2, .int .i64 x3, .slice xmA xmN xmC, .slice xsA xsN xsC, .int .i64 xpc, .slice xbA xbN xbC, .slice xqA xqN xqC, .int .i64 xf] 41 (0, 0)) ∧ (∀ g x, S5 ≠ g → w.heap[g]? = x → (((((((((((w).setCell ⟨S5, 0, none⟩ (.int .i64 x0)).setCell ⟨S5, 1, none⟩ (.int .i64 x1)).setCell ⟨S5, 2, none⟩ (.int .i64 x2)).setCell ⟨S5, 3, none⟩ (.int .i64 x3)).setCell ⟨S5, 4, none⟩ (.slice xmA xmN xmC)).setCell ⟨S5, 5, none⟩ (.slice xsA xsN xsC)).setCell ⟨S5, 6, none⟩ (.int .i64 xpc)).setCell ⟨S5, 7, none⟩ (.slice xbA xbN xbC)).setCell ⟨S5, 8, none⟩ (.slice xqA xqN xqC)).setCell ⟨S5, 9, none⟩ (.int .i64 xf)).heap[g]? = x) ∧ (∀ w0 : World, w0.heap.size ≤ S5 → Below w0.heap.size w0 w → Below w0.heap.size w0 (((((((((((w).setCell ⟨S5, 0, none⟩ (.int .i64 x0)).setCell ⟨S5, 1, none⟩ (.int .i64 x1)).setCell ⟨S5, 2, none⟩ (.int .i64 x2)).setCell ⟨S5, 3, none⟩ (.int .i64 x3)).setCell ⟨S5, 4, none⟩ (.slice xmA xmN xmC)).setCell ⟨S5, 5, none⟩ (.slice xsA xsN xsC)).setCell ⟨S5, 6, none⟩ (.int .i64 xpc)).setCell ⟨S5, 7, none⟩ (.slice xbA xbN xbC)).setCell ⟨S5, 8, none⟩ (.slice xqA xqN xqC)).setCell ⟨S5, 9, none⟩ (.int .i64 xf))) ∧
      (∀ (B : Nat) (c : Cnf) (m : Conf), S5 < B → Cf4 w B c m → Cf4 (((((((((((w).setCell ⟨S5, 0, none⟩ (.int .i64 x0)).setCell ⟨S5, 1, none⟩ (.int .i64 x1)).setCell ⟨S5, 2, none⟩ (.int .i64 x2)).setCell ⟨S5, 3, none⟩ (.int .i64 x3)).setCell ⟨S5, 4, none⟩ (.slice xmA xmN xmC)).setCell ⟨S5, 5, none⟩ (.slice xsA xsN xsC)).setCell ⟨S5, 6, none⟩ (.int .i64 xpc)).setCell ⟨S5, 7, none⟩ (.slice xbA xbN xbC)).setCell ⟨S5, 8, none⟩ (.slice xqA xqN xqC)).setCell ⟨S5, 9, none⟩ (.int .i64 xf)) B c m) := by
  refine ⟨?_, fun g x hg hx => ?_, fun w0 hs hb => ?_, fun B c m hB h => ?_⟩
  · have x0_ := heap_setCell_same (w) S5 0 _ _ (.int .i64 x0) X
    have x1_ := heap_setCell_same ((w).setCell ⟨S5, 0, none⟩ (.int .i64 x0)) S5 1 _ _ (.int .i64 x1) x0_
    have x2_ := heap_setCell_same (((w).setCell ⟨S5, 0, none⟩ (.int .i64 x0)).setCell ⟨S5, 1, none⟩ (.int .i64 x1)) S5 2 _ _ (.int .i64 x2) x1_
    have x3_ := heap_setCell_same ((((w).setCell ⟨S5, 0, none⟩ (.int .i64 x0)).setCell ⟨S5, 1, none⟩ (.int .i64 x1)).setCell ⟨S5, 2, none⟩ (.int .i64 x2)) S5 3 _ _ (.int .i64 x3) x2_
    have x4_ := heap_setCell_same (((((w).setCell ⟨S5, 0, none⟩ (.int .i64 x0)).setCell ⟨S5, 1, none⟩ (.int .i64 x1)).setCell ⟨S5, 2, none⟩ (.int .i64 x2)).setCell ⟨S5, 3, none⟩ (.int .i64 x3)) S5 4 _ _ (.slice xmA xmN xmC) x3_
    have x5_ := heap_setCell_same ((((((w).setCell ⟨S5, 0, none⟩ (.int .i64 x0)).setCell ⟨S5, 1, none⟩ (.int .i64 x1)).setCell ⟨S5, 2, none⟩ (.int .i64 x2)).setCell ⟨S5, 3, none⟩ (.int .i64 x3)).setCell ⟨S5, 4, none⟩ (.slice xmA xmN xmC)) S5 5 _ _ (.slice xsA xsN xsC) x4_
    have x6_ := heap_setCell_same (((((((w).setCell ⟨S5, 0, none⟩ (.int .i64 x0)).setCell ⟨S5, 1, none⟩ (.int .i64 x1)).setCell ⟨S5, 2, none⟩ (.int .i64 x2)).setCell ⟨S5, 3, none⟩ (.int .i64 x3)).setCell ⟨S5, 4, none⟩ (.slice xmA xmN xmC)).setCell ⟨S5, 5, none⟩ (.slice xsA xsN xsC)) S5 6 _ _ (.int .i64 xpc) x5_
    have x7_ := heap_setCell_same ((((((((w).setCell ⟨S5, 0, none⟩ (.int .i64 x0)).setCell ⟨S5, 1, none⟩ (.int .i64 x1)).setCell ⟨S5, 2, none⟩ (.int .i64 x2)).setCell ⟨S5, 3, none⟩ (.int .i64 x3)).setCell ⟨S5, 4, none⟩ (.slice xmA xmN xmC)).setCell ⟨S5, 5, none⟩ (.slice xsA xsN xsC)).setCell ⟨S5, 6, none⟩ (.int .i64 xpc)) S5 7 _ _ (.slice xbA xbN xbC) x6_
    have x8_ := heap_setCell_same (((((((((w).setCell ⟨S5, 0, none⟩ (.int .i64 x0)).setCell ⟨S5, 1, none⟩ (.int .i64 x1)).setCell ⟨S5, 2, none⟩ (.int .i64 x2)).setCell ⟨S5, 3, none⟩ (.int .i64 x3)).setCell ⟨S5, 4, none⟩ (.slice xmA xmN xmC)).setCell ⟨S5, 5, none⟩ (.slice xsA xsN xsC)).setCell ⟨S5, 6, none⟩ (.int .i64 xpc)).setCell ⟨S5, 7, none⟩ (.slice xbA xbN xbC)) S5 8 _ _ (.slice xqA xqN xqC) x7_
    have x9_ := heap_setCell_same ((((((((((w).setCell ⟨S5, 0, none⟩ (.int .i64 x0)).setCell ⟨S5, 1, none⟩ (.int .i64 x1)).setCell ⟨S5, 2, none⟩ (.int .i64 x2)).setCell ⟨S5, 3, none⟩ (.int .i64 x3)).setCell ⟨S5, 4, none⟩ (.slice xmA xmN xmC)).setCell ⟨S5, 5, none⟩ (.slice xsA xsN xsC)).setCell ⟨S5, 6, none⟩ (.int .i64 xpc)).setCell ⟨S5, 7, none⟩ (.slice xbA xbN xbC)).setCell ⟨S5, 8, none⟩ (.slice xqA xqN xqC)) S5 9 _ _ (.int .i64 xf) x8_
    exact x9_.trans (congrArg (fun a => some (Obj.cells a 41 (0, 0))) (by kernel_rfl))
  · iterate 10 refine heap_set_far ?_ (by exact hg)
    exact hx
  · iterate 10 refine Below.setCell ?_ (by exact hs) _
    exact hb
  · iterate 10 refine Cf4.far ?_ (by exact hB) _
    exact h
set_option maxRecDepth 100000 in
set_option maxHeartbeats 2000000 in
theorem frets_walk (n0 : Int) (w : World) : Calls Try.prog 11 #[.int .i64 n0] w (SaysTrue w) := by
  have HAW := Kept.mk awake14
  have HBG : Kept (∀ w1, Calls Try.prog 36 #[.agg #[.int .i64 0, .int .i64 0, .int .i64 0, .int .i64 0, .slice none 0 0, .slice none 0 0, .int .i64 0]] w1 fun en w' => en = .returned (.agg #[.int .i64 0, .int .i64 0, .int .i64 0, .int .i64 0, .slice none 0 0, .slice none 0 0, .int .i64 0, .slice none 0 0, .slice none 0 0, .int .i64 0]) ∧ Below w1.heap.size w1 w') := ⟨fun w1 => begin_ref ⟨0, 0, 0, 0, ⟨none, 0, 0⟩, ⟨none, 0, 0⟩, 0⟩ w1⟩
  obtain ⟨M, hM, hM0, hM1⟩ := mask3 n0
  obtain ⟨N, hN, hN1, hN4⟩ : ∃ N : Nat, M + 1 = (N : Int) ∧ 1 ≤ N ∧ N ≤ 4 := ⟨(M + 1).toNat, by omega, by omega, by omega⟩
  have hw1 : IntKind.i64.wrap (M + 1) = (N : Int) := by rw [IntWalk.i64_in _ (by omega)]; exact hN
  go_enter Try.func11, Try.ntmps11
  go_upto_region 3 with (fail)
  have XP := heap_alloc_new w (.cells #[.int .i64 1, .int .i64 6, .int .i64 0, .int .i64 0, .int .i64 0, .int .i64 0, .int .i64 0, .slice none 0 0, .slice none 0 0, .slice none 0 0] 33)
  have WB := Kept.mk (below_alloc_self w (.cells #[.int .i64 1, .int .i64 6, .int .i64 0, .int .i64 0, .int .i64 0, .int .i64 0, .int .i64 0, .slice none 0 0, .slice none 0 0, .slice none 0 0] 33))
  have hs1 : w.heap.size + 1 ≤ (w.alloc (.cells #[.int .i64 1, .int .i64 6, .int .i64 0, .int .i64 0, .int .i64 0, .int .i64 0, .int .i64 0, .slice none 0 0, .slice none 0 0, .slice none 0 0] 33)).heap.size := by simp
  clear hM hw1
  generalize w.alloc (.cells #[.int .i64 1, .int .i64 6, .int .i64 0, .int .i64 0, .int .i64 0, .int .i64 0, .int .i64 0, .slice none 0 0, .slice none 0 0, .slice none 0 0] 33) = w1 at *
  go_wp2_with fail
  go_loopw [4] (fun v wr => ∃ (k : Nat) (s : Sl), v = .int .i64 ((k : Nat) : Int) ∧ k ≤ N ∧ wr.heap[w.heap.size]? = some (.cells #[.int .i64 1, .int .i64 6, .int .i64 0, .int .i64 0, .int .i64 0, .int .i64 0, .int .i64 0, .slice none 0 0, .slice none 0 0, .slice s.A s.n s.c] 33 (0, 0)) ∧ OwnR wr (w.heap.size + 1) (.slice s.A s.n s.c) (callsK k) ∧ w.heap.size + 1 ≤ wr.heap.size ∧ Below w.heap.size w wr) (fun v _ => ((N : Int) - intOf v).toNat)
  case atStart => exact ⟨0, ⟨none, 0, 0⟩, rfl, by omega, XP, World.ownsRow_nil _ _ _ _, hs1, WB.out⟩
  case round =>
    obtain ⟨k, ⟨sA, sN, sC⟩, rfl, hk, XP, hO, hs1, hb⟩ := hrel
    have WB := Kept.mk hb
    have HO := Kept.mk hO
    have XK := Kept.mk XP
    clear hb hO
    have Y := fun j => cell_of_row wr w.heap.size j _ _ _ XP
    by_cases hlt : k < N
    · have hlt' : ((k : Nat) : Int) < (N : Int) := by omega
      have wk : IntKind.i64.wrap (((k : Nat) : Int) + 1) = ((k : Nat) : Int) + 1 := IntWalk.i64_in _ (by omega)
      clear XP
      go_wp2_with (at_builtin; go_must (refine append_inst _ rfl (.tmp 21) (.tmp 25) rfl (w.heap.size + 1) rfl (HO.out.past (below_alloc_self _ _)) _ (callK k) rfl (heap_at_new (by simp)) ?c1 ?c2 ?_))
      case c1 => rw [callsK_length]; omega
      case c2 => first | exact hs1 | omega | (simp; omega)
      intro v' w' h1 h2 h3
      have XP := (h3.block w.heap.size (Nat.lt_succ_self _)).trans (heap_keep XK.out (below_alloc_self wr (.cells (callK k).cs.toArray 53)))
      have WB := Kept.mk (WB.out.trans (((below_alloc_self wr (.cells (callK k).cs.toArray 53)).mono (by omega)).trans (h3.mono (by omega))))
      have hs1 : w.heap.size + 1 ≤ w'.heap.size := by have := h3.size; simp at this; omega
      have h1 : OwnR w' (w.heap.size + 1) v' (callsK (k + 1)) := by rw [callsK_succ]; exact h1
      obtain ⟨⟨tA, tN, tC⟩, rfl⟩ : ∃ s : Sl, v' = .slice s.A s.n s.c := by
        obtain ⟨A_, c_, e_, -, -⟩ := own_shape h1
        exact ⟨⟨A_, _, c_⟩, e_⟩
      have HO := Kept.mk h1
      clear h1 h2 h3 Y XK
      have Y := fun j => cell_of_row w' w.heap.size j _ _ _ XP
      have F := fun j => frozen_of_row w' w.heap.size j _ _ XP
      go_wp2_with fail
      exact ⟨⟨k + 1, ⟨tA, tN, tC⟩, rfl, by omega, heap_setCell_same w' w.heap.size 9 _ _ (.slice tA tN tC) XP, own_far HO.out (by show w.heap.size < w.heap.size + 1; omega) _, (by simp [World.setCell]; omega), WB.out.setCell (p := ⟨w.heap.size, 9, none⟩) (Nat.le_refl _) _⟩, (by show ((N : Int) - (((k : Nat) : Int) + 1)).toNat < ((N : Int) - ((k : Nat) : Int)).toNat; omega)⟩
    · obtain rfl : N = k := by omega
      clear XP hlt
      go_wp2_with (at_builtin; go_must (refine append_inst _ rfl (.tmp 29) (.tmp 31) rfl (w.heap.size + 1) rfl (HO.out.past (below_alloc_self _ _)) _ (retK) rfl (heap_at_new (by simp)) ?c1 ?c2 ?_))
      case c1 => rw [callsK_length]; omega
      case c2 => first | exact hs1 | omega | (simp; omega)
      intro v' w' h1 h2 h3
      have XP := (h3.block w.heap.size (Nat.lt_succ_self _)).trans (heap_keep XK.out (below_alloc_self wr (.cells retK.cs.toArray 53)))
      have WB := Kept.mk (WB.out.trans (((below_alloc_self wr (.cells retK.cs.toArray 53)).mono (by omega)).trans (h3.mono (by omega))))
      have h1 : w'.ownsRow (w.heap.size + 1) 53 9 v' (N + 1) (instCs (ilR N)) := by have h := h1; unfold OwnR at h; rwa [show (callsK N ++ [retK]).length = N + 1 from ilR_length N] at h
      obtain ⟨pA, pC, rfl, -, -⟩ := own_shape h1
      have HO := Kept.mk h1
      clear h1 h2 h3 Y XK
      have Y := fun j => cell_of_row w' w.heap.size j _ _ _ XP
      have F := fun j => frozen_of_row w' w.heap.size j _ _ XP
      go_upto_region 8 with (fail)
      have XP := heap_setCell_same w' w.heap.size 9 _ _ (.slice pA (N + 1) pC) XP
      have HO := Kept.mk (own_far HO.out (p := ⟨w.heap.size, 9, none⟩) (by show w.heap.size < w.heap.size + 1; omega) (.slice pA (N + 1) pC))
      have WB := Kept.mk (WB.out.setCell (p := ⟨w.heap.size, 9, none⟩) (Nat.le_refl _) (.slice pA (N + 1) pC))
      have XP : (w'.setCell ⟨w.heap.size, 9, none⟩ (.slice pA (N + 1) pC)).heap[w.heap.size]? = some (.cells #[.int .i64 1, .int .i64 6, .int .i64 0, .int .i64 0, .int .i64 0, .int .i64 0, .int .i64 0, .slice none 0 0, .slice none 0 0, .slice pA (N + 1) pC] 33 (0, 0)) := XP
      clear Y F
      generalize w'.setCell ⟨w.heap.size, 9, none⟩ (.slice pA (N + 1) pC) = w2 at *
      have hPI : PIs w2 (⟨1, 6, 0, 0, 0, 0, 0, .slice none 0 0, .slice none 0 0, pA, N + 1, pC⟩ : Prg) (ilR N) := ⟨(ilR_length N).symm, (show N + 1 ≤ 1000 by omega), (by
        obtain ⟨A_, c_, e_, -, hr_⟩ := own_shape HO.out
        injection e_ with e1 e2 e3
        subst e1
        unfold RdN
        rw [ilR_length]
        exact hr_)⟩
      have HPI := Kept.mk hPI
      have HF : Kept (∀ (j : Nat) (c : Cnf) (w1 : World), j ≤ N → Below w2.heap.size w2 w1 → CfIs w1 c (mR j) → Calls Try.prog 41 #[Prg.v (⟨1, 6, 0, 0, 0, 0, 0, .slice none 0 0, .slice none 0 0, pA, N + 1, pC⟩ : Prg), c.v, .int .i64 0] w1 (CfGot4 (fetchQ 6 (ilR N) (mR j) 0) w1)) := ⟨fun j c w1 hj hb hc => by
        have hf := factR j (by omega)
        exact pfetch_own (⟨1, 6, 0, 0, 0, 0, 0, .slice none 0 0, .slice none 0 0, pA, N + 1, pC⟩ : Prg) (ilR N) c (mR j) 0 w1 (HPI.out.past hb) hc hf.m hf.s (by rw [hf.b]; omega) (by have := hf.q; omega) (by rw [hf.p]; omega)⟩
      have HG : Kept (∀ (m : Conf) (c : Cnf) (w1 : World), m.buf.length ≤ 1000000 → m.rsb.length ≤ 1000000 → Below w2.heap.size w2 w1 → CfIs w1 c m → Calls Try.prog 42 #[Prg.v (⟨1, 6, 0, 0, 0, 0, 0, .slice none 0 0, .slice none 0 0, pA, N + 1, pC⟩ : Prg), c.v] w1 fun en w' => en = .returned (.int .i64 (guessesOf 6 (ilR N) m)) ∧ Below w1.heap.size w1 w') := ⟨fun m c w1 h1 h2 hb hc => pguesses_any (⟨1, 6, 0, 0, 0, 0, 0, .slice none 0 0, .slice none 0 0, pA, N + 1, pC⟩ : Prg) (ilR N) c m w1 (HPI.out.past hb) hc h1 h2⟩
      clear hPI HPI HO hk
      go_wp2_with fail
      refine (HBG.out w2).mono ?_
      rintro enx w3 ⟨rfl, b3⟩
      have HB := Kept.mk b3
      clear b3
      go_upto_region 9 with (fail)
      have bC := below_alloc_self w3 (.cells #[.int .i64 0, .int .i64 0, .int .i64 0, .int .i64 0, .slice none 0 0, .slice none 0 0, .int .i64 0, .slice none 0 0, .slice none 0 0, .int .i64 0] 41)
      have X5 := heap_alloc_new w3 (.cells #[.int .i64 0, .int .i64 0, .int .i64 0, .int .i64 0, .slice none 0 0, .slice none 0 0, .int .i64 0, .slice none 0 0, .slice none 0 0, .int .i64 0] 41)
      have hs5 : w2.heap.size ≤ w3.heap.size := HB.out.size
      have HB := Kept.mk (HB.out.trans (bC.mono HB.out.size))
      clear bC
      generalize w3.alloc (.cells #[.int .i64 0, .int .i64 0, .int .i64 0, .int .i64 0, .slice none 0 0, .slice none 0 0, .int .i64 0, .slice none 0 0, .slice none 0 0, .int .i64 0] 41) = w4 at *
      obtain ⟨S5, hS5⟩ : ∃ S, w3.heap.size = S := ⟨_, rfl⟩
      rw [hS5] at X5 hs5 ⊢
      clear hS5
      have KP := Kept.mk XP
      clear XP
      have hsP : w.heap.size < w2.heap.size := (Array.getElem?_eq_some_iff.1 KP.out).1
      go_wp2_with fail
      go_loopw [6] (fun v wr => ∃ (k : Nat) (c : Cnf), v = .int .i64 ((k : Nat) : Int) ∧ k ≤ N ∧ wr.heap[S5]? = some (.cells c.cs.toArray 41 (0, 0)) ∧ Cf4 wr (S5 + 1) c (mR k) ∧ Below w2.heap.size w2 wr) (fun v _ => ((N : Int) - intOf v).toNat)
      case atStart => exact ⟨0, ⟨⟨0, 0, 0, 0, ⟨none, 0, 0⟩, ⟨none, 0, 0⟩, 0⟩, ⟨none, 0, 0⟩, ⟨none, 0, 0⟩, 0⟩, rfl, by omega, X5, ⟨rfl, rfl, rfl, rfl, OwnI.nil, OwnI.nil, rfl, OwnE.nil, OwnI.nil, rfl⟩, HB.out⟩
      case round =>
        obtain ⟨k, ⟨⟨c0, c1, c2, c3, ⟨cmA, cmN, cmC⟩, ⟨csA, csN, csC⟩, cpc⟩, ⟨cbA, cbN, cbC⟩, ⟨cqA, cqN, cqC⟩, cf⟩, rfl, hk, X5, hcf, hb⟩ := hrel
        simp only [Cnf.cs] at X5
        have HB := Kept.mk hb
        have HC := Kept.mk hcf
        clear hb hcf
        have XP := heap_keep KP.out HB.out
        have YP := fun j => cell_of_row wr w.heap.size j _ _ _ XP
        have YC := fun j => cell_of_row wr S5 j _ _ _ X5
        have hsr : S5 < wr.heap.size := (Array.getElem?_eq_some_iff.1 X5).1
        by_cases hlt : k < N
        · have hlt' : ((k : Nat) : Int) < (N : Int) := by omega
          have wk : IntKind.i64.wrap (((k : Nat) : Int) + 1) = ((k : Nat) : Int) + 1 := IntWalk.i64_in _ (by omega)
          clear XP
          go_wp2_with fail
          refine (HF.out k ⟨⟨c0, c1, c2, c3, ⟨cmA, cmN, cmC⟩, ⟨csA, csN, csC⟩, cpc⟩, ⟨cbA, cbN, cbC⟩, ⟨cqA, cqN, cqC⟩, cf⟩ wr hk HB.out HC.out.is).mono ?_
          rintro enx w6 ⟨cx, rfl, hcx, b6⟩
          rw [stepR N k hN1 hN4 hlt] at hcx ⊢
          have hcx : Cf4 w6 wr.heap.size cx (mR (k + 1)) := hcx
          obtain ⟨⟨x0, x1, x2, x3, ⟨xmA, xmN, xmC⟩, ⟨xsA, xsN, xsC⟩, xpc⟩, ⟨xbA, xbN, xbC⟩, ⟨xqA, xqN, xqC⟩, xf⟩ := cx
          have hf := factR (k + 1) (by omega)
          obtain ⟨ex, hex, hed, hef⟩ := hf.e (Nat.succ_pos k)
          obtain rfl : xbN = k + 1 := by have h := hcx.is.buf.n; simp only at h; rw [hf.b] at h; exact h
          have hxq : (xqN : Int) = min ((k : Int) + 1) 2 := by have h := hcx.is.rsb.n; simp only at h; rw [h, hf.q]; rfl
          have X5 := heap_keep X5 b6
          have HB := Kept.mk (HB.out.trans (b6.mono HB.out.size))
          clear YP YC b6
          go_upto_region 13 with (fail)
          have bX := below_alloc_self w6 (.cells #[.int .i64 x0, .int .i64 x1, .int .i64 x2, .int .i64 x3, .slice xmA xmN xmC, .slice xsA xsN xsC, .int .i64 xpc, .slice xbA (k + 1) xbC, .slice xqA xqN xqC, .int .i64 xf] 41)
          have X7 := heap_alloc_new w6 (.cells #[.int .i64 x0, .int .i64 x1, .int .i64 x2, .int .i64 x3, .slice xmA xmN xmC, .slice xsA xsN xsC, .int .i64 xpc, .slice xbA (k + 1) xbC, .slice xqA xqN xqC, .int .i64 xf] 41)
          have X5 := heap_keep X5 bX
          have h57 : S5 < w6.heap.size := (Array.getElem?_eq_some_iff.1 ‹_›).1
          have hcx := hcx.past bX
          have HB := Kept.mk (HB.out.trans (bX.mono HB.out.size))
          clear bX
          generalize w6.alloc (.cells #[.int .i64 x0, .int .i64 x1, .int .i64 x2, .int .i64 x3, .slice xmA xmN xmC, .slice xsA xsN xsC, .int .i64 xpc, .slice xbA (k + 1) xbC, .slice xqA xqN xqC, .int .i64 xf] 41) = w7 at *
          obtain ⟨S7, hS7⟩ : ∃ S, w6.heap.size = S := ⟨_, rfl⟩
          rw [hS7] at X7 h57 ⊢
          clear hS7
          have hbl : (mR (k + 1)).buf.length = k + 1 := hf.b
          obtain ⟨pb, po, rfl, -, -, -, -, -, -, q5, -, q7⟩ := RdE.at_ hcx.is.buf.r (i := k) (by rw [hbl]; omega)
          have hek : (mR (k + 1)).buf[k]'(by rw [hbl]; omega) = ex := by
            have h := List.getElem?_eq_some_iff.1 hex
            exact h.2
          rw [hek, hed] at q5
          rw [hek, hef] at q7
          have Y7 := fun j => cell_of_row w7 S7 j _ _ _ X7
          have Y5 := fun j => cell_of_row w7 S5 j _ _ _ X5
          have F5 := fun j => frozen_of_row w7 S5 j _ _ X5
          have hg1 : (((xqN : Nat) : Int) != min (((k : Nat) : Int) + 1) 2) = false := by rw [hxq]; simp
          have hg2 : ((((k + 1 : Nat)) : Int) != ((k : Nat) : Int) + 1) = false := by simp
          have hg3 : (((k : Nat) : Int) + 1 != ((k : Nat) : Int) + 1) = false := by simp
          have hlt8 : k < k + 1 := Nat.lt_succ_self _
          have hlt9 : ((k : Nat) : Int) < ((k : Nat) : Int) + 1 := by omega
          have hlt11 : 0 ≤ ((k : Nat) : Int) := by omega
          clear hex hed hef hek hbl hxq X7
          have KX5 := Kept.mk X5
          have KCX := Kept.mk hcx
          clear X5 hcx
          go_wp2_with fail
          obtain ⟨X5, hfar, hbel, hcfar⟩ := st10 (x0 := x0) (x1 := x1) (x2 := x2) (x3 := x3) (xmA := xmA) (xmN := xmN) (xmC := xmC) (xsA := xsA) (xsN := xsN) (xsC := xsC) (xpc := xpc) (xbA := some ⟨pb, po, none⟩) (xbN := k + 1) (xbC := xbC) (xqA := xqA) (xqN := xqN) (xqC := xqC) (xf := xf) w7 S5 KX5.out
          exact ⟨⟨k + 1, ⟨⟨x0, x1, x2, x3, ⟨xmA, xmN, xmC⟩, ⟨xsA, xsN, xsC⟩, xpc⟩, ⟨some ⟨pb, po, none⟩, k + 1, xbC⟩, ⟨xqA, xqN, xqC⟩, xf⟩, rfl, by omega, X5, Cf4.lower (hcfar _ _ _ hsr KCX.out) (by omega), hbel w2 hs5 HB.out⟩, (by show ((N : Int) - (((k : Nat) : Int) + 1)).toNat < ((N : Int) - ((k : Nat) : Int)).toNat; omega)⟩
        · obtain rfl : N = k := by omega
          have he := endR N hN1 hN4
          obtain ⟨d, hdq, hdp, hdr⟩ := he.q
          have hgg := he.g
          have hgz := he.z
          clear XP hlt he
          go_wp2_with fail
          refine (HF.out N ⟨⟨c0, c1, c2, c3, ⟨cmA, cmN, cmC⟩, ⟨csA, csN, csC⟩, cpc⟩, ⟨cbA, cbN, cbC⟩, ⟨cqA, cqN, cqC⟩, cf⟩ wr (Nat.le_refl _) HB.out HC.out.is).mono ?_
          rintro enx w6 ⟨cx, rfl, hcx, b6⟩
          rw [hdq] at hcx ⊢
          have hcx : Cf4 w6 wr.heap.size cx d := hcx
          obtain ⟨⟨x0, x1, x2, x3, ⟨xmA, xmN, xmC⟩, ⟨xsA, xsN, xsC⟩, xpc⟩, ⟨xbA, xbN, xbC⟩, ⟨xqA, xqN, xqC⟩, xf⟩ := cx
          have hxp : xpc = (N : Int) := hcx.is.st.pc.trans hdp
          subst hxp
          have hxq : (xqN : Int) = min (N : Int) 2 - 1 := by have h := hcx.is.rsb.n; simp only at h; rw [h, hdr]
          have X5 := heap_keep X5 b6
          have HC := Kept.mk (HC.out.past b6)
          have HB := Kept.mk (HB.out.trans (b6.mono HB.out.size))
          clear YP YC b6 hcx hdq hdp hdr
          go_upto_region 17 with (fail)
          have bX := below_alloc_self w6 (.cells #[.int .i64 x0, .int .i64 x1, .int .i64 x2, .int .i64 x3, .slice xmA xmN xmC, .slice xsA xsN xsC, .int .i64 (N : Int), .slice xbA xbN xbC, .slice xqA xqN xqC, .int .i64 xf] 41)
          have X9 := heap_alloc_new w6 (.cells #[.int .i64 x0, .int .i64 x1, .int .i64 x2, .int .i64 x3, .slice xmA xmN xmC, .slice xsA xsN xsC, .int .i64 (N : Int), .slice xbA xbN xbC, .slice xqA xqN xqC, .int .i64 xf] 41)
          have X5 := heap_keep X5 bX
          have HC := Kept.mk (HC.out.past bX)
          have HB := Kept.mk (HB.out.trans (bX.mono HB.out.size))
          clear bX
          generalize w6.alloc (.cells #[.int .i64 x0, .int .i64 x1, .int .i64 x2, .int .i64 x3, .slice xmA xmN xmC, .slice xsA xsN xsC, .int .i64 (N : Int), .slice xbA xbN xbC, .slice xqA xqN xqC, .int .i64 xf] 41) = w7 at *
          obtain ⟨S9, hS9⟩ : ∃ S, w6.heap.size = S := ⟨_, rfl⟩
          rw [hS9] at X9 ⊢
          clear hS9
          have YP := fun j => cell_of_row w7 w.heap.size j _ _ _ (heap_keep KP.out HB.out)
          have Y9 := fun j => cell_of_row w7 S9 j _ _ _ X9
          have Y5 := fun j => cell_of_row w7 S5 j _ _ _ X5
          have wm : IntKind.i64.wrap (min (N : Int) 2 - 1) = min (N : Int) 2 - 1 := IntWalk.i64_in _ (by omega)
          have hg1 : (((N : Nat) : Int) != ((N : Nat) : Int)) = false := by simp
          have hg2 : (((xqN : Nat) : Int) != min (N : Int) 2 - 1) = false := by rw [hxq]; simp
          have hf := factR N hN4
          have hbz : (mR N).buf.length ≤ 1000000 := by rw [hf.b]; omega
          have hqz : (mR N).rsb.length ≤ 1000000 := by have := hf.q; omega
          clear hf hxq X9
          have KX5 := Kept.mk X5
          clear X5
          go_wp2_with fail
          refine (HG.out (mR N) ⟨⟨c0, c1, c2, c3, ⟨cmA, cmN, cmC⟩, ⟨csA, csN, csC⟩, cpc⟩, ⟨cbA, cbN, cbC⟩, ⟨cqA, cqN, cqC⟩, cf⟩ w7 hbz hqz HB.out HC.out.is).mono ?_
          rintro enx w8 ⟨rfl, b8⟩
          rw [hgg]
          have X5 := heap_keep KX5.out b8
          have HC := Kept.mk (HC.out.past b8)
          have HB := Kept.mk (HB.out.trans (b8.mono HB.out.size))
          clear YP Y9 Y5 b8 KX5
          have Y5 := fun j => cell_of_row w8 S5 j _ _ _ X5
          have F5 := fun j => frozen_of_row w8 S5 j _ _ X5
          go_upto_region 20 with (fail)
          have X5 : (w8.setCell ⟨S5, 8, none⟩ (.slice none 0 0)).heap[S5]? = some (.cells #[.int .i64 c0, .int .i64 c1, .int .i64 c2, .int .i64 c3, .slice cmA cmN cmC, .slice csA csN csC, .int .i64 cpc, .slice cbA cbN cbC, .slice none 0 0, .int .i64 cf] 41 (0, 0)) := heap_setCell_same w8 S5 8 _ _ (.slice none 0 0) X5
          have h4 := Cf4.far HC.out (p := ⟨S5, 8, none⟩) (Nat.lt_succ_self _) (.slice none 0 0)
          have HZ : Kept (CfIs (w8.setCell ⟨S5, 8, none⟩ (.slice none 0 0)) ⟨⟨c0, c1, c2, c3, ⟨cmA, cmN, cmC⟩, ⟨csA, csN, csC⟩, cpc⟩, ⟨cbA, cbN, cbC⟩, ⟨none, 0, 0⟩, cf⟩ (mRz N)) := ⟨⟨h4.is.st, h4.is.buf, RdIs.nil, h4.is.fin⟩⟩
          have HB := Kept.mk (HB.out.setCell (p := ⟨S5, 8, none⟩) (show w2.heap.size ≤ S5 from hs5) (.slice none 0 0))
          clear Y5 F5 h4 HC
          generalize w8.setCell ⟨S5, 8, none⟩ (.slice none 0 0) = w9 at *
          have YP := fun j => cell_of_row w9 w.heap.size j _ _ _ (heap_keep KP.out HB.out)
          have Y5 := fun j => cell_of_row w9 S5 j _ _ _ X5
          have wn : IntKind.i64.wrap ((N : Int) + 2) = (N : Int) + 2 := IntWalk.i64_in _ (by omega)
          have hge : (((N : Nat) : Int) + 2 == ((N : Nat) : Int) + 2) = true := by simp
          clear X5
          go_wp2_with fail
          refine (HG.out (mRz N) ⟨⟨c0, c1, c2, c3, ⟨cmA, cmN, cmC⟩, ⟨csA, csN, csC⟩, cpc⟩, ⟨cbA, cbN, cbC⟩, ⟨none, 0, 0⟩, cf⟩ w9 hbz (by show ([] : List Int).length ≤ 1000000; decide) HB.out HZ.out).mono ?_
          rintro enx w10 ⟨rfl, b10⟩
          rw [hgz]
          have HB := Kept.mk (HB.out.trans (b10.mono HB.out.size))
          clear YP Y5 b10
          go_wp2_with fail
          refine (HAW.out w10).mono ?_
          rintro enx w11 ⟨rfl, b11⟩
          have WB := Kept.mk ((WB.out.trans (HB.out.mono WB.out.size)).trans (b11.mono (by have := HB.out.size; have := WB.out.size; omega)))
          clear b11
          go_wp2_with fail
          go_ret
          exact ⟨rfl, WB.out⟩
end Go.Proofs.Ytchldbkjapnlcaa
