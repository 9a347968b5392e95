/- retb.Real: what returns come to. -/
import Derived.Test.YtdfcbfcnanpolaaRetb
import Derived.Test.YtdfcbfcnanpolaaInst
namespace Go.Proofs.Ytdfcbfcnanpolaa
open Go.RowKit

def realOf (il : List Inst) : List Int → List Ent → Option (List Int)
  | s, [] => some s
  | s, e :: l =>
    if (instAt il e.pc).kind = 8 then (if 4 ≤ s.length then none else realOf il (s ++ [e.pc + 1]) l)
    else if (instAt il e.pc).kind = 9 then (if s.length = 0 then none else realOf il (s.take (s.length - 1)) l)
    else realOf il s l
/-- What is told of Real's two answers. -/
structure RealPost (r : Option (List Int)) (w : World) (en : Ending) (w' : World) : Prop where
  out : ∃ v, en = .returned (.tuple #[v, .bool r.isSome]) ∧ (match r with | some s => OwnI w' w.heap.size v s | none => v = .slice none 0 0) ∧ Below w.heap.size w w'

theorem RealPost.no {r : Option (List Int)} {w w' : World} (h : r = none) (hb : Below w.heap.size w w') : RealPost r w (.returned (.tuple #[.slice none 0 0, .bool false])) w' := by
  subst h
  exact ⟨⟨_, rfl, rfl, hb⟩⟩
theorem RealPost.yes {r : Option (List Int)} {w w' : World} {v : Value} {s : List Int} (h : r = some s) (ho : OwnI w' w.heap.size v s) (hb : Below w.heap.size w w') : RealPost r w (.returned (.tuple #[v, .bool true])) w' := by
  subst h
  exact ⟨⟨_, rfl, ho, hb⟩⟩
/-- A row between two marks is kept, and the own row v lies elsewhere. -/
structure Apart (lo hi : Nat) (w3 w : World) (v : Value) : Prop where
  mid : ∀ k, lo ≤ k → k < hi → w.heap[k]? = w3.heap[k]?
  far : ∀ g, v.ownBlock = some g → g < lo ∨ hi ≤ g
  up : hi ≤ w.heap.size
theorem own_block_len (A : Option Addr) (n m c : Nat) : (Value.slice A n c).ownBlock = (Value.slice A m c).ownBlock := by cases A <;> rfl
theorem Apart.past {lo hi : Nat} {w3 w w' : World} {v : Value} (h : Apart lo hi w3 w v) (hb : Below w.heap.size w w') : Apart lo hi w3 w' v :=
  ⟨fun k h1 h2 => (hb.block k (Nat.lt_of_lt_of_le h2 h.up)).trans (h.mid k h1 h2), h.far, Nat.le_trans h.up hb.size⟩
theorem Apart.grown {lo hi : Nat} {w3 w w' : World} {v v' : Value} (h : Apart lo hi w3 w v) (hg : w.grownBy w' v.ownBlock) (hv : v'.ownBlock = v.ownBlock ∨ v'.ownBlock = some w.heap.size) : Apart lo hi w3 w' v' := by
  refine ⟨fun k h1 h2 => (hg.block k (Nat.lt_of_lt_of_le h2 h.up) (fun e => ?_)).trans (h.mid k h1 h2), fun g e => ?_, Nat.le_trans h.up hg.size⟩
  · have := h.far k e.symm
    omega
  · rcases hv with hv | hv
    · exact h.far g (by rw [← hv]; exact e)
    · rw [hv] at e
      injection e with e
      have := h.up
      omega
theorem Apart.own {lo : Nat} {w3 w : World} {v v3 : Value} {m : List Ent} (h : Apart lo w3.heap.size w3 w v) (ho : OwnE w3 lo v3 m) : OwnE w lo v3 m := by
  refine ⟨ho.1, ?_⟩
  rcases ho.2 with hn | ⟨g, cap, cur, hv, hg, hh, rest⟩
  · exact .inl hn
  · exact .inr ⟨g, cap, cur, hv, hg, (h.mid g hg (Array.getElem?_eq_some_iff.1 hh).1).trans hh, rest⟩
theorem own_reads {w : World} {B : Nat} {A : Option Addr} {n c : Nat} {m : List Ent} (h : OwnE w B (.slice A n c) m) : RdE w A m := by
  obtain ⟨A', c', e, _, hr⟩ := h.shape
  injection e with e1 e2 e3
  subst e1
  exact hr
/-- append of one number, with where the new row lies. -/
theorem append_int_lies {ops : Array Oper} {rest : List Oper} {o : Oper} {a : Act} {Q : Exit → Act → World → Prop} (W : World) (hgd : o.guard = none) (s x : Operand)
    (ho : o.op = .call { callee := .builtin .append, args := #[s, x], argTypes := #[22, 22] }) (B : Nat) {v : Value} {l : List Int} (hs : a.eval s = v) (hown : OwnI W B v l) (g : Nat) (n : Int)
    (hx : a.eval x = .slice (some ⟨g, 0, none⟩) 1 1) (hg : W.heap[g]? = some (.cells #[.int .i64 n] 3 (0, 0))) (hl : l.length < 1000000) (hB : B ≤ W.heap.size)
    (h : ∀ v' w', OwnI w' B v' (l ++ [n]) → W.grownBy w' v.ownBlock → (v'.ownBlock = v.ownBlock ∨ v'.ownBlock = some W.heap.size) → Below B W w' → wpList Try.prog ops Q rest (a.put o.dst v') w') : wpList Try.prog ops Q (o :: rest) a W := by
  obtain ⟨i0, hi0, hz0, hz1, hz2⟩ := info_parts info_int
  refine wpList_append_any W hgd s x _ ho B 3 i0 _ 1 8 Try.underlying22 hi0 hz0 hz1 hz2 rfl (by omega) v l.length (intCs l) hs hown W.heap.size (some ⟨g, 0, none⟩) 1 1 (intCs [n]) hx (reads_block hg rfl) (intCs_one_cell [n])
    (by simp only [maxLen]; omega) (by omega) hB fun v' w' h1 h2 h3 => h v' w' ?_ h2 h3 ((Below.refl _ _).grown h2 hB (fun k hk => (World.ownsRow.lt hown k hk).1))
  unfold OwnI
  rw [intCs_append, List.length_append]
  exact h1
/-- A program's ten cells. -/
def PrgAt (w : World) (b : Nat) (p : Prg) : Prop :=
  w.cell? ⟨b, 0, none⟩ = some (.int .i64 p.W) ∧ w.cell? ⟨b, 1, none⟩ = some (.int .i64 p.window) ∧ w.cell? ⟨b, 2, none⟩ = some (.int .i64 p.fuel) ∧ w.cell? ⟨b, 3, none⟩ = some (.int .i64 p.r0) ∧ w.cell? ⟨b, 4, none⟩ = some (.int .i64 p.r1) ∧
  w.cell? ⟨b, 5, none⟩ = some (.int .i64 p.r2) ∧ w.cell? ⟨b, 6, none⟩ = some (.int .i64 p.r3) ∧ w.cell? ⟨b, 7, none⟩ = some p.mems ∧ w.cell? ⟨b, 8, none⟩ = some p.labels ∧ w.cell? ⟨b, 9, none⟩ = some (.slice p.A p.n p.c)
theorem PrgAt.of_block {w : World} {g : Nat} {t : TypeId} {fr : Nat × Nat} {p : Prg} (h : w.heap[g]? = some (.cells p.cs.toArray t fr)) : PrgAt w g p := by
  have f : ∀ j u, p.cs[j]? = some u → w.cell? ⟨g, j, none⟩ = some u := fun j u hu => by
    have := cells_of_block h j u hu
    rwa [Nat.zero_add] at this
  exact ⟨f 0 _ rfl, f 1 _ rfl, f 2 _ rfl, f 3 _ rfl, f 4 _ rfl, f 5 _ rfl, f 6 _ rfl, f 7 _ rfl, f 8 _ rfl, f 9 _ rfl⟩
theorem inst_bound {il : List Inst} {pc : Int} (h : (instAt il pc).kind ≠ 12) : 0 ≤ pc ∧ pc < il.length := by
  unfold instAt at h
  split at h
  · exact absurd rfl h
  · by_cases hx : pc.toNat < il.length
    · omega
    · rw [List.getElem?_eq_none (by omega)] at h
      exact absurd rfl h

set_option maxRecDepth 100000 in
set_option maxHeartbeats 2000000 in
theorem real_any (p : Prg) (il : List Inst) (A : Option Addr) (c : Nat) (s : List Int) (A' : Option Addr) (c' : Nat) (l : List Ent) (i : Int) (w : World) (hn : p.n = il.length) (hm : p.n ≤ 1000000) (hp : RdN w p.A il)
    (hs : RdI w A s) (hsn : s.length ≤ 1000) (hl : RdE w A' l) (hlc : l.length ≤ c') (hln : l.length ≤ 1000000) :
    Calls Try.prog 24 #[p.v, .slice A s.length c, .slice A' l.length c', .int .i64 i] w (RealPost (realOf il s (l.take i.toNat)) w) := by
  have HP := Kept.mk hp
  have HS := Kept.mk hs
  have HE := Kept.mk hl
  have HN := Kept.mk hn
  clear hp hs hl hn
  go_enter Try.func24, Try.ntmps24
  go_wp2_with fail
  refine (clone_int A c s _ (HS.out.past (below_alloc_self w _)) (by omega)).mono ?_
  rintro en w1 ⟨v1, rfl, h1, b1⟩
  have H1 := Kept.mk (h1.lower (show w.heap.size + 1 ≤ _ by simp))
  have B1 := Kept.mk (b1.mono (show w.heap.size + 1 ≤ _ by simp))
  clear h1 b1
  go_wp2_with fail
  refine (cut_any A' c' l i _ (HE.out.past ((below_alloc_self w _).trans (B1.out.mono (by omega)))) hlc hln).mono ?_
  rintro en w3 ⟨v3, rfl, h3, b3⟩
  obtain ⟨A3, c3, rfl, hc3, -⟩ := h3.shape
  have hmn : (l.take i.toNat).length ≤ 1000000 := by rw [List.length_take]; omega
  have S1 : w.heap.size + 1 ≤ w1.heap.size := by have := B1.out.size; simpa using this
  have H3 := Kept.mk h3
  have AP := Kept.mk (show Apart w1.heap.size w3.heap.size w3 w3 v1 from ⟨fun k _ _ => rfl, fun g hg => by have := (World.ownsRow.lt H1.out g hg).2; omega, Nat.le_refl _⟩)
  have HO := Kept.mk (H1.out.past b3)
  have B3 := Kept.mk (B1.out.trans (b3.mono S1))
  clear h3 b3
  generalize hMM : l.take i.toNat = m at *
  have HM := Kept.mk hMM
  clear hMM
  go_wp2_with fail
  go_loopw [10, 19] (fun v i wr => ∃ (k : Nat) (out : List Int), k ≤ m.length ∧ i = .int .i64 k ∧ out.length ≤ 1000 ∧ Kept (realOf il out (m.drop k) = realOf il s m) ∧ OwnI wr (w.heap.size + 1) v out ∧ Apart w1.heap.size w3.heap.size w3 wr v ∧
    Below (w.heap.size + 1) (w.alloc (.cells p.cs.toArray 54)) wr) (fun _ i _ => m.length - (intOf i).toNat)
  case atStart => exact ⟨0, s, Nat.zero_le _, rfl, hsn, ⟨by rw [List.drop_zero]⟩, HO.out, AP.out, B3.out⟩
  case round =>
    obtain ⟨k, out, hk, rfl, hout, hre, ho, hap, hb⟩ := hrel
    obtain ⟨A4, c4, rfl, hc4, r4⟩ := ho.shape
    have hbx := Kept.mk ((hb.block _ (by omega)).trans (heap_alloc_new w (.cells p.cs.toArray 54)))
    have HBW := Kept.mk ((below_alloc_self w (.cells p.cs.toArray 54)).trans (hb.mono (by omega)))
    have HR4 := Kept.mk r4
    have HO4 := Kept.mk ho
    have HA := Kept.mk hap
    have HB := Kept.mk hb
    clear ho hap hb r4
    by_cases hlt : k < m.length
    · obtain ⟨b, o, rfl, hb1, e0, e1, e2, e3, e4, e5, e6, e7⟩ := (own_reads (HA.out.own H3.out)).elem hlt
      obtain ⟨p0, p1, p2, p3, p4, p5, p6, p7, p8, p9⟩ := PrgAt.of_block hbx.out
      have hpw : w.heap.size < wr.heap.size := by have := HB.out.size; simp at this; omega
      have hd : m.drop k = m[k] :: m.drop (k + 1) := List.drop_eq_getElem_cons hlt
      have hre2 := hre.out
      rw [hd, realOf] at hre2
      have hat := fun w1 h => at_any p il m[k].pc w1 HN.out hm h
      have hbd := @inst_bound il m[k].pc
      generalize instAt il m[k].pc = I at hat hbd hre2
      have HRE := Kept.mk hre2
      clear hre2 hd
      by_cases h8 : I.kind = 8
      · have hpc := hbd (by omega)
        rw [← HN.out] at hpc
        clear hbd
        have HAT := Kept.mk hat
        clear hat
        by_cases h4 : 4 ≤ out.length
        · go_wp2_with fail
          refine (HAT.out _ ((HP.out.past HBW.out).past (below_alloc_self _ _))).mono ?_
          rintro en w5 ⟨rfl, b5⟩
          have B5 := Kept.mk ((HBW.out.trans ((below_alloc_self _ _).mono (by omega))).trans (b5.mono (by simp; omega)))
          clear b5
          go_wp2_with fail
          go_ret2
          exact RealPost.no (by rw [← HRE.out, if_pos h8, if_pos h4]) B5.out
        · go_wp2_with fail
          refine (HAT.out _ ((HP.out.past HBW.out).past (below_alloc_self _ _))).mono ?_
          rintro en w5 ⟨rfl, b5⟩
          have b5' := (below_alloc_self wr (.cells m[k].cs.toArray 27)).trans (b5.mono (by simp))
          have hbx5 : w5.cell? ⟨wr.heap.size, 0, none⟩ = some (.int .i64 m[k].pc) := by
            rw [b5.cell (p := ⟨wr.heap.size, 0, none⟩) (by simp)]
            exact (EntAt.of_cells (e := m[k]) (fun j u _ hu => cells_of_block (heap_alloc_new wr _) j u hu)).1
          have O5 := Kept.mk (HO4.out.past b5')
          have A5 := Kept.mk (HA.out.past b5')
          have B5 := Kept.mk (HB.out.trans (b5'.mono (by omega)))
          clear b5 b5'
          go_wp2_with (at_builtin; go_must (refine append_int_lies _ rfl (.tmp 33) (.tmp 37) rfl (w.heap.size + 1) rfl (O5.out.past (below_alloc_self _ _)) _ (m[k].pc + 1) rfl (heap_at_new (by simp)) ?c1 ?c2 ?_))
          case c1 => omega
          case c2 => have := B5.out.size; simp at this ⊢; omega
          intro v6 w6 h6 hg6 hl6 b6
          have O6 := Kept.mk h6
          have A6 := Kept.mk ((A5.out.past (below_alloc_self w5 (.cells #[.int .i64 (m[k].pc + 1)] 3))).grown hg6 (hl6.imp_right fun h => h.trans (by simp)))
          have B6 := Kept.mk ((B5.out.alloc (by have := B5.out.size; simpa using this) (.cells #[.int .i64 (m[k].pc + 1)] 3)).trans b6)
          clear h6 hg6 hl6 b6
          go_wp2_with fail
          exact ⟨⟨k + 1, out ++ [m[k].pc + 1], by omega, by go_num, by simp; omega, ⟨by rw [← HRE.out, if_pos h8, if_neg h4]⟩, O6.out, A6.out, B6.out⟩, by simp [intOf]; omega⟩
      · have h8' : (I.kind == 8) = false := by simp [h8]
        by_cases h9 : I.kind = 9
        · have HAT := Kept.mk hat
          clear hat hbd h8'
          cases hol : out.length with
          | zero =>
            rw [hol] at hc4
            have HOL := Kept.mk hol
            clear hol
            go_wp2_with fail
            refine (HAT.out _ ((HP.out.past HBW.out).past (below_alloc_self _ _))).mono ?_
            rintro en w5 ⟨rfl, b5⟩
            have B5 := Kept.mk ((HBW.out.trans ((below_alloc_self _ _).mono (by omega))).trans (b5.mono (by simp; omega)))
            clear b5
            go_wp2_with fail
            go_ret2
            exact RealPost.no (by rw [← HRE.out, if_neg h8, if_pos h9, if_pos HOL.out]) B5.out
          | succ j =>
            obtain ⟨hcut, r5⟩ := cut_int_to HR4.out hc4 j (by omega)
            rw [hol] at hcut hc4
            have HOL := Kept.mk hol
            have hj : j < 1000 := by omega
            clear hol r5
            have H8 := Kept.mk h8
            clear h8
            go_wp2_with fail
            refine (HAT.out _ ((HP.out.past HBW.out).past (below_alloc_self _ _))).mono ?_
            rintro en w5 ⟨rfl, b5⟩
            have b5' := (below_alloc_self wr (.cells m[k].cs.toArray 27)).trans (b5.mono (by simp))
            have O5 := Kept.mk (HO4.out.past b5')
            have A5 := Kept.mk (HA.out.past b5')
            have B5 := Kept.mk (HB.out.trans (b5'.mono (by omega)))
            clear b5 b5'
            go_wp2_with fail
            exact ⟨⟨k + 1, out.take j, by omega, by go_num, by simp; omega, ⟨by rw [← HRE.out, if_neg H8.out, if_pos h9, if_neg (by have := HOL.out; omega), HOL.out]; rfl⟩, OwnI.take O5.out rfl (by have := HOL.out; omega), ⟨A5.out.mid, fun g hg => A5.out.far g (by rw [own_block_len A4 out.length j c4]; exact hg), A5.out.up⟩, B5.out⟩, by simp [intOf]; omega⟩
        · have h9' : (I.kind == 9) = false := by simp [h9]
          have HAT := Kept.mk hat
          have H8 := Kept.mk h8
          have H9 := Kept.mk h9
          clear hat hbd h8 h9
          go_wp2_with fail
          refine (HAT.out _ ((HP.out.past HBW.out).past (below_alloc_self _ _))).mono ?_
          rintro en w5 ⟨rfl, b5⟩
          have b5' := (below_alloc_self wr (.cells m[k].cs.toArray 27)).trans (b5.mono (by simp))
          have O5 := Kept.mk (HO4.out.past b5')
          have A5 := Kept.mk (HA.out.past b5')
          have B5 := Kept.mk (HB.out.trans (b5'.mono (by omega)))
          clear b5 b5'
          go_wp2_with fail
          exact ⟨⟨k + 1, out, by omega, by go_num, by omega, ⟨by rw [← HRE.out, if_neg H8.out, if_neg H9.out]⟩, O5.out, A5.out, B5.out⟩, by simp [intOf]; omega⟩
    · have hkm : k = m.length := by omega
      have hdn : realOf il s m = some out := by
        rw [← hre.out, hkm, List.drop_length, realOf]
      have HD := Kept.mk hdn
      clear hdn hre
      go_wp2_with fail
      refine (clone_int A4 c4 out _ HR4.out (by omega)).mono ?_
      rintro en w5 ⟨v5, rfl, h5, b5⟩
      have H5 := Kept.mk (h5.lower (show w.heap.size ≤ _ from HBW.out.size))
      have B5 := Kept.mk (HBW.out.trans (b5.mono HBW.out.size))
      clear h5 b5
      go_wp2_with fail
      go_ret2
      exact RealPost.yes HD.out H5.out B5.out

theorem real_yes (p : Prg) (il : List Inst) (A : Option Addr) (c : Nat) (s : List Int) (A' : Option Addr) (c' : Nat) (l : List Ent) (i : Int) (r : List Int) (w : World) (h : realOf il s (l.take i.toNat) = some r) (hn : p.n = il.length) (hm : p.n ≤ 1000000) (hp : RdN w p.A il)
    (hs : RdI w A s) (hsn : s.length ≤ 1000) (hl : RdE w A' l) (hlc : l.length ≤ c') (hln : l.length ≤ 1000000) :
    Calls Try.prog 24 #[p.v, .slice A s.length c, .slice A' l.length c', .int .i64 i] w (fun en w' => ∃ v, en = .returned (.tuple #[v, .bool true]) ∧ OwnI w' w.heap.size v r ∧ Below w.heap.size w w') := by
  refine (real_any p il A c s A' c' l i w hn hm hp hs hsn hl hlc hln).mono ?_
  rintro en w' ⟨v, rfl, hv, hb⟩
  rw [h] at hv ⊢
  exact ⟨v, rfl, hv, hb⟩
theorem real_no (p : Prg) (il : List Inst) (A : Option Addr) (c : Nat) (s : List Int) (A' : Option Addr) (c' : Nat) (l : List Ent) (i : Int) (w : World) (h : realOf il s (l.take i.toNat) = none) (hn : p.n = il.length) (hm : p.n ≤ 1000000) (hp : RdN w p.A il)
    (hs : RdI w A s) (hsn : s.length ≤ 1000) (hl : RdE w A' l) (hlc : l.length ≤ c') (hln : l.length ≤ 1000000) :
    Calls Try.prog 24 #[p.v, .slice A s.length c, .slice A' l.length c', .int .i64 i] w (fun en w' => en = .returned (.tuple #[.slice none 0 0, .bool false]) ∧ Below w.heap.size w w') := by
  refine (real_any p il A c s A' c' l i w hn hm hp hs hsn hl hlc hln).mono ?_
  rintro en w' ⟨v, rfl, hv, hb⟩
  rw [h] at hv ⊢
  simp only at hv
  subst hv
  exact ⟨rfl, hb⟩
end Go.Proofs.Ytdfcbfcnanpolaa
