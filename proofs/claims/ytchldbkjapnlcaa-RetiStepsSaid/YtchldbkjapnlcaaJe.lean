/- What kind of row a slice lies in: so that a store into a box of another kind keeps it. The document's Push. The document's own answer, layer 14: the region that puts the entry behind all. A machine's rows of numbers, kept while boxes are stored into. The document's own answer, layer 15: an entry that is done. The document's own answer, layer 15: an address that is told. -/
import Derived.Test.YtchldbkjapnlcaaJd
import Derived.Test.YtchldbkjapnlcaaJDoA
import Derived.Test.YtchldbkjapnlcaaJDoB
import Derived.Test.YtchldbkjapnlcaaJDoC
import Derived.Test.YtchldbkjapnlcaaJDoD
set_option linter.unusedVariables false
set_option linter.unusedSimpArgs false
namespace Go.Proofs.Ytchldbkjapnlcaa
open Go.RowKit
section
def Tag (w : World) (t : TypeId) (A : Option Addr) (n : Nat) : Prop := 0 < n → ∃ (ad : Addr) (cs : Array Value) (fr : Nat × Nat), A = some ad ∧ w.heap[ad.block]? = some (.cells cs t fr)
section
variable {w w' : World} {t t' : TypeId} {A : Option Addr} {n k : Nat}
theorem Tag.zero : Tag w t A 0 := fun h => absurd h (by omega)
theorem Tag.past (h : Tag w t A n) (hb : Below w.heap.size w w') : Tag w' t A n := fun hn => by
 obtain ⟨ad, cs, fr, e, hh⟩ := h hn
 exact ⟨ad, cs, fr, e, q01 hh hb⟩
theorem Tag.of_own {B size c m : Nat} {xs : List Value} (h : w.ownsRow B t size (.slice A n c) m xs) : Tag w t A n := fun hn => by
 rcases h.2 with ⟨hv, _⟩ | ⟨g, cap, cur, hv, _, hh, _⟩
 ·injection hv with h1 h2 _
  omega
 ·injection hv with h1
  subst h1
  exact ⟨_, _, _, rfl, hh⟩
end
structure CfTy (w : World) (c : Cnf) : Prop where
 mem : Tag w 3 c.st.mem.A c.st.mem.n
 stack : Tag w 3 c.st.stack.A c.st.stack.n
 buf : Tag w 55 c.buf.A c.buf.n
 rsb : Tag w 3 c.rsb.A c.rsb.n
theorem CfTy.past {w w' : World} {c : Cnf} (h : CfTy w c) (hb : Below w.heap.size w w') : CfTy w' c := ⟨h.mem.past hb, h.stack.past hb, h.buf.past hb, h.rsb.past hb⟩
def RowIs (l : List Int) (w : World) (en : Ending) (w' : World) : Prop := ∃ (A : Option Addr) (c : Nat), en = .returned (.slice A l.length c) ∧ l.length ≤ c ∧ RdI w' A l ∧ Tag w' 3 A l.length ∧ Below w.heap.size w w'
theorem cut_tag {w : World} {t : TypeId} {A : Option Addr} {n k s c : Nat} (h : Tag w t A n) (hk : k ≤ n) : Tag w t (if c = k then A else A.map (·.add (k * s))) (n - k) := fun hn => by
 obtain ⟨ad, cs, fr, rfl, hh⟩ := h (by omega)
 split
 ·exact ⟨ad, cs, fr, rfl, hh⟩
 ·exact ⟨ad.add (k * s), cs, fr, rfl, by rw [block_of_add]; exact hh⟩
theorem cut_int_from2 {w : World} {A : Option Addr} {l : List Int} (h : RdI w A l) (ht : Tag w 3 A l.length) {c : Nat} (hc : l.length ≤ c) (k : Nat) (hk : k ≤ l.length) :
  ∃ A1, (∀ w1, (Instr.slice 22 (.slice A l.length c) (some (.int .i64 (k : Int))) none none).run Try.prog w1 = .ok (.slice A1 (l.length - k) (c - k)) w1) ∧ RdI w A1 (l.drop k) ∧ Tag w 3 A1 (l.length - k) := by
 obtain ⟨i, hi, _, hs, _⟩ := info_parts q2C
 refine ⟨if c = k then A else A.map (·.add (k * 1)), fun w1 => ?_, h.from_ hk hc, cut_tag ht hk⟩
 have := run_cut_from (P := Try.prog) 22 3 i 1 hs Try.underlying22 hi A l.length c (k : Int) (by omega) (by omega) w1
 simpa using this
set_option maxRecDepth 100000 in
set_option maxHeartbeats 2000000 in
theorem push_ref (A : Option Addr) (c : Nat) (l : List Int) (pc : Int) (w : World) (hr : RdI w A l) (hn : l.length < 100000) :
  Calls Try.prog 22 #[.slice A l.length c, .int .i64 pc] w (RowIs (lastTwo (l ++ [pc])) w) := by
 have HR := Kept.mk hr
 clear hr
 go_enter Try.func22, Try.ntmps22
 go_wp2_with (at_builtin; go_must (refine append_nums _ rfl (.tmp 6) (.tmp 7) rfl w.heap.size rfl (OwnI.made (Nat.le_refl _)) (m := l) rfl (HR.out.past (q00 w _)) (by simp; omega) (by simp) ?_))
 intro v1 w1 h1 hg1 b1
 have H1 := Kept.mk (show OwnI w1 w.heap.size v1 l from h1)
 have B1 := Kept.mk ((q00 w (.cells #[] 3)).trans b1)
 clear h1 hg1 b1
 go_wp2_with (at_builtin; go_must (refine append_int _ rfl (.tmp 8) (.tmp 10) rfl w.heap.size rfl (H1.out.past (q00 _ _)) _ pc rfl (q06 (by simp)) ?c0 ?c1 ?_))
 case c0 => omega
 case c1 => have := B1.out.size; simp; omega
 intro v2 w2 h2 hg2 b2
 obtain ⟨A2, c2, rfl, hc2, r2⟩ := h2.shape
 obtain ⟨A3, hcut, r3, t3⟩ := cut_int_from2 r2 (Tag.of_own h2) hc2 (l.length - 1) (by simp; omega)
 rw [List.length_append, List.length_singleton] at hcut hc2 t3 ⊢
 have hmx : max ((l.length : Int) + 1 - 2) 0 = ((l.length - 1 : Nat) : Int) := by omega
 have B2 := Kept.mk ((B1.out.alloc B1.out.size (.cells #[.int .i64 pc] 3)).trans (b2.mono (Nat.le_refl _)))
 have R3 := Kept.mk r3
 have T3 := Kept.mk t3
 clear h2 hg2 b2 r2 r3 t3
 go_wp2_with fail
 go_ret
 have hl : lastTwo (l ++ [pc]) = (l ++ [pc]).drop (l.length - 1) := by unfold lastTwo; rw [List.length_append, List.length_singleton, show l.length + 1 - 2 = l.length - 1 by omega]
 have hln : (lastTwo (l ++ [pc])).length = l.length + 1 - (l.length - 1) := by rw [hl]; simp
 refine ⟨A3, c2 - (l.length - 1), by rw [hln]; rfl, by rw [hln]; omega, by rw [hl]; exact R3.out, by rw [hln]; exact T3.out, B2.out⟩
end
section
def findRegion (id : Nat) : Code → Option Code
 | .region i ops d => if i = id then some (.region i ops d) else none
 | .seq a b => match findRegion id a with
  | some c => some c
  | none => findRegion id b
 | .cond _ a b => match findRegion id a with
  | some c => some c
  | none => findRegion id b
 | .block _ c => findRegion id c
 | .loop c => findRegion id c
 | .scope c => findRegion id c
 | _ => none
noncomputable def regF (id : Nat) : Code := (Try.f45.body.bind (findRegion id)).getD .skip
theorem OwnE.grown {w w' : World} {B g : Nat} {v : Value} {l : List Ent} (h : OwnE w B v l) (hg : w.grownBy w' (some g)) (hlt : g < B) : OwnE w' B v l :=
 World.ownsRow.kept h hg (by
  cases hv : v.ownBlock with
  | none => exact .inl rfl
  | some k => exact .inr (fun e => by injection e with e; have := (World.ownsRow.lt h k hv).1; omega))
theorem reads_grown {w w' : World} {g size n : Nat} {A : Option Addr} {xs : List Value} (h : Reads w w.heap.size size A n xs) (hg : w.grownBy w' (some g)) (ho : 0 < n → ∀ ad, A = some ad → ad.block ≠ g) : Reads w' w'.heap.size size A n xs :=
 ⟨h.1, fun hn => by
  obtain ⟨ad, e, hs, hb, hc⟩ := h.2 hn
  have hne := ho hn ad e
  refine ⟨ad, e, hs, Nat.lt_of_lt_of_le hb hg.size, fun j u hu => ?_⟩
  rw [hg.cell_far ⟨ad.block, ad.off + j, none⟩ hb (by intro h; injection h with h; exact hne h)]
  exact hc j u hu⟩
theorem grown_new {w0 w1 w2 : World} {r row : Option Nat} (h1 : w0.grownBy w1 r) (h2 : w1.grownBy w2 row) (hr : ∀ k, row = some k → w0.heap.size ≤ k) : w0.grownBy w2 r :=
 ⟨h2.os.trans h1.os, h2.tape.trans h1.tape, h2.output.trans h1.output, Nat.le_trans h1.size h2.size, fun i hi hne => (h2.block i (Nat.lt_of_lt_of_le hi h1.size) (fun e => by have := hr i e.symm; omega)).trans (h1.block i hi hne)⟩
def KeepNE (w w' : World) : Prop := ∀ (b : Nat) (cs : Array Value), cs.size ≠ 0 → w.heap[b]? = some (.cells cs 55 (0, 0)) → w'.heap[b]? = some (.cells cs 55 (0, 0))
theorem keepNE_of {w w' : World} {g : Nat} (h : w.grownBy w' (some g)) (hh : w.heap[g]? = some (.cells #[] 55 (0, 0))) : KeepNE w w' := fun b cs hc hb => by
 refine (h.block b (Array.getElem?_eq_some_iff.1 hb).1 ?_).trans hb
 intro e
 injection e with e
 subst e
 rw [hh] at hb
 injection hb with hb
 injection hb with hb
 subst hb
 exact hc rfl
theorem own_empty {w : World} {N g : Nat} (hg : N ≤ g) (h : w.heap[g]? = some (.cells #[] 55 (0, 0))) : w.ownsRow N 55 8 (.slice (some ⟨g, 0, none⟩) 0 0) 0 [] :=
 ⟨by simp, .inr ⟨g, 0, #[], rfl, hg, h, Nat.le_refl _, by simp [maxLen], by simp, by simp⟩⟩
theorem q22 {P : Program} {w : World} {ty : TypeId} {a : Addr} {A : Option Addr} {n c : Nat} {old : Value} (hc : w.cell? a = some old) (hf : w.frozen? a = false) (hi : (P.info? ty).map (·.size) = some 1) : (storeVar ty a (.slice A n c)).run P w = .ok () (w.setCell a (.slice A n c)) := by
 cases hq : P.info? ty with
 | none => simp [hq] at hi
 | some i =>
  have hsz : i.size = 1 := by simpa [hq] using hi
  have h0 : a.add 0 = a := by simp [Addr.add]
  simp [storeVar, sizeOf, typeInfo, hq, hsz, Value.cells, storeCells, h0, run_store P w a (.slice A n c) _ rfl, hc, hf]
set_option maxRecDepth 100000 in
set_option maxHeartbeats 8000000 in
theorem q25 {z0 z1 z2 z3 z5 z6 z7 z8 z9 z11 z12 z13 z14 z15 z16 z17 z18 z19 z20 z21 z22 z23 z24 z25 z26 z27 z28 z29 z30 z31 z32 z33 z34 z35 z36 z37 z38 z39 z40 z41 z42 z43 z44 z45 z46 z47 z48 z49 z50 z51 z52 z53 z54 z55 z56 z57 z58 z59 z60 z61 z62 z63 z64 z65 z66 z67 z68 z69 z70 z71 z72 z73 z74 z75 z76 z77 z78 z79 z80 z81 z82 z83 z84 z85 z86 z87 z88 z89 z90 z91 z92 z93 z94 z95 z96 z97 z98 z99 z100 z101 z102 z103 z104 z105 z106 z107 z108 z109 z110 z111 z112 z113 z114 z115 z116 z117 z118 z119 z120 z121 z122 z123 z124 z125 z126 z127 : Value} (w0 : World) (S4 S10 N0 : Nat) (c : Cnf) (e : Ent) (l : List Ent) (X4 : Kept (w0.heap[S4]? = some (.cells (Cnf.cs c).toArray 41 (0, 0)))) (X10 : Kept (w0.heap[S10]? = some (.cells e.cs.toArray 55 (0, 0))))
  (HL : Kept (RdE w0 c.buf.A l)) (HN : Kept (c.buf.n = l.length)) (HO : Kept (0 < l.length → ∀ ad, c.buf.A = some ad → ad.block ≠ S4)) (hln : l.length ≤ 1000) (hN : w0.heap.size = N0) (h4 : S4 < N0) (h10 : S10 < N0) (hne : S10 ≠ S4) (Q : Exit → Act → World → Prop)
  (hQ : ∀ (u115 u116 u117 u118 u119 u120 u121 u122 : Value) (w' : World) (s : Sl), OwnE w' N0 (.slice s.A s.n s.c) (l ++ [e]) → w'.heap[S4]? = some (.cells (Cnf.cs { c with buf := s }).toArray 41 (0, 0)) → w0.grownBy w' (some S4) → Q .normal ⟨#[z0, z1, z2, z3, .pointer (some ⟨S4, 0, none⟩), z5, z6, z7, z8, z9, .pointer (some ⟨S10, 0, none⟩), z11, z12, z13, z14, z15, z16, z17, z18, z19, z20, z21, z22, z23, z24, z25, z26, z27, z28, z29, z30, z31, z32, z33, z34, z35, z36, z37, z38, z39, z40, z41, z42, z43, z44, z45, z46, z47, z48, z49, z50, z51, z52, z53, z54, z55, z56, z57, z58, z59, z60, z61, z62, z63, z64, z65, z66, z67, z68, z69, z70, z71, z72, z73, z74, z75, z76, z77, z78, z79, z80, z81, z82, z83, z84, z85, z86, z87, z88, z89, z90, z91, z92, z93, z94, z95, z96, z97, z98, z99, z100, z101, z102, z103, z104, z105, z106, z107, z108, z109, z110, z111, z112, z113, z114, u115, u116, u117, u118, u119, u120, u121, u122, z123, z124, z125, z126, z127], []⟩ w') :
  Code.wp Try.prog (regF 27) Q ⟨#[z0, z1, z2, z3, .pointer (some ⟨S4, 0, none⟩), z5, z6, z7, z8, z9, .pointer (some ⟨S10, 0, none⟩), z11, z12, z13, z14, z15, z16, z17, z18, z19, z20, z21, z22, z23, z24, z25, z26, z27, z28, z29, z30, z31, z32, z33, z34, z35, z36, z37, z38, z39, z40, z41, z42, z43, z44, z45, z46, z47, z48, z49, z50, z51, z52, z53, z54, z55, z56, z57, z58, z59, z60, z61, z62, z63, z64, z65, z66, z67, z68, z69, z70, z71, z72, z73, z74, z75, z76, z77, z78, z79, z80, z81, z82, z83, z84, z85, z86, z87, z88, z89, z90, z91, z92, z93, z94, z95, z96, z97, z98, z99, z100, z101, z102, z103, z104, z105, z106, z107, z108, z109, z110, z111, z112, z113, z114, z115, z116, z117, z118, z119, z120, z121, z122, z123, z124, z125, z126, z127], []⟩ w0 := by
 have HNL : c.buf.n ≤ 1000 := by have := HN.out; omega
 have grow0 : Grows (fun v w => ∃ g, v = .slice (some ⟨g, 0, none⟩) 0 0 ∧ N0 ≤ g ∧ w.heap[g]? = some (.cells #[] 55 (0, 0))) := fun _ _ _ ⟨g, h1, h2, h3⟩ hb => ⟨g, h1, h2, q01 h3 hb⟩
 have grow5 : Grows (fun v w => ∃ g, v = .slice (some ⟨g, 0, none⟩) 1 1 ∧ N0 ≤ g ∧ w.heap[g]? = some (.cells e.cs.toArray 55 (0, 0))) := fun _ _ _ ⟨g, h1, h2, h3⟩ hb => ⟨g, h1, h2, q01 h3 hb⟩
 have keep5 : ∀ {v : Value} {w1 w2 : World}, (fun v w => ∃ g, v = .slice (some ⟨g, 0, none⟩) 1 1 ∧ N0 ≤ g ∧ w.heap[g]? = some (.cells e.cs.toArray 55 (0, 0))) v w1 → KeepNE w1 w2 → (fun v w => ∃ g, v = .slice (some ⟨g, 0, none⟩) 1 1 ∧ N0 ≤ g ∧ w.heap[g]? = some (.cells e.cs.toArray 55 (0, 0))) v w2 := fun ⟨g, h1, h2, h3⟩ hk => ⟨g, h1, h2, hk _ _ (by simp [Ent.cs]) h3⟩
 have keep0 : ∀ {v : Value} {w1 w2 : World}, (fun v w => ∃ g, v = .slice (some ⟨g, 0, none⟩) 0 0 ∧ N0 ≤ g ∧ w.heap[g]? = some (.cells #[] 55 (0, 0))) v w1 → w1.grownBy w2 (some S4) → S4 < N0 → (fun v w => ∃ g, v = .slice (some ⟨g, 0, none⟩) 0 0 ∧ N0 ≤ g ∧ w.heap[g]? = some (.cells #[] 55 (0, 0))) v w2 := fun ⟨g, h1, h2, h3⟩ hk h4 => ⟨g, h1, h2, (hk.block _ (Array.getElem?_eq_some_iff.1 h3).1 (by intro h; injection h with h; omega)).trans h3⟩
 have keep5b : ∀ {v : Value} {w1 w2 : World}, (fun v w => ∃ g, v = .slice (some ⟨g, 0, none⟩) 1 1 ∧ N0 ≤ g ∧ w.heap[g]? = some (.cells e.cs.toArray 55 (0, 0))) v w1 → w1.grownBy w2 (some S4) → S4 < N0 → (fun v w => ∃ g, v = .slice (some ⟨g, 0, none⟩) 1 1 ∧ N0 ≤ g ∧ w.heap[g]? = some (.cells e.cs.toArray 55 (0, 0))) v w2 := fun ⟨g, h1, h2, h3⟩ hk h4 => ⟨g, h1, h2, (hk.block _ (Array.getElem?_eq_some_iff.1 h3).1 (by intro h; injection h with h; omega)).trans h3⟩
 conv => arg 2; whnf
 refine q19 (fun done vals w => (w0.grownBy w (some S4) ∧ (if done 8 = true then (∃ s : Sl, vals 6 = .slice s.A s.n s.c ∧ w.heap[S4]? = some (.cells (Cnf.cs { c with buf := s }).toArray 41 (0, 0))) else w.heap[S4]? = some (.cells (Cnf.cs c).toArray 41 (0, 0))))) (S4) (G := fun _ => True) (ts := [
   .makes (fun v w => ∃ g, v = .slice (some ⟨g, 0, none⟩) 0 0 ∧ N0 ≤ g ∧ w.heap[g]? = some (.cells #[] 55 (0, 0))),
   .is (Value.pointer (some ⟨S4, 7, none⟩)),
   .is (.slice c.buf.A c.buf.n c.buf.c),
   .turns (fun v w => OwnE w N0 v l) KeepNE,
   .is (e.v),
   .makes (fun v w => ∃ g, v = .slice (some ⟨g, 0, none⟩) 1 1 ∧ N0 ≤ g ∧ w.heap[g]? = some (.cells e.cs.toArray 55 (0, 0))),
   .turns (fun v w => OwnE w N0 v (l ++ [e])) (fun _ _ => True),
   .is (Value.pointer (some ⟨S4, 7, none⟩)),
   .sets (fun w w' => w.grownBy w' (some S4))])
  (fin := [6]) (cs := [(3, 5), (8, 0), (8, 3), (8, 5), (8, 6), (3, 8), (6, 8)]) ?z0 ?zg (by kernel_rfl) rfl (by kernel_rfl) (by kernel_rfl)
  ⟨grow0, trivial, trivial, OwnE.grows, trivial, grow5, OwnE.grows, trivial, (fun _ _ _ _ _ => trivial), trivial⟩ (fun _ _ _ _ => trivial) ?cs (by omega) trivial
  ⟨?_, ?_, ?_, ?_, ?_, ?_, ?_, ?_, ?_, trivial⟩ ?_
 case z0 =>
  show _
  simp only [Bool.false_eq_true, if_false]
  exact ⟨q1A (Below.refl _ _).drew _, X4.out⟩
 case zg =>
  intro i done vals w1 w2 v hti hni hZ hb
  have hz := hZ
  ·skip
   have h8 : ¬ 8 = i := by rintro rfl; cases hti
   have h6 : ¬ 6 = i := by rintro rfl; cases hti
   have hz : (w0.grownBy w1 (some S4) ∧ (if done 8 = true then (∃ s : Sl, vals 6 = .slice s.A s.n s.c ∧ w1.heap[S4]? = some (.cells (Cnf.cs { c with buf := s }).toArray 41 (0, 0))) else w1.heap[S4]? = some (.cells (Cnf.cs c).toArray 41 (0, 0)))) := hz
   show (w0.grownBy w2 (some S4) ∧ (if (done 8 || 8 == i) = true then (∃ s : Sl, (if 6 = i then v else vals 6) = .slice s.A s.n s.c ∧ w2.heap[S4]? = some (.cells (Cnf.cs { c with buf := s }).toArray 41 (0, 0))) else w2.heap[S4]? = some (.cells (Cnf.cs c).toArray 41 (0, 0))))
   rw [show (8 == i) = false by simpa using h8, Bool.or_false, if_neg h6]
   refine ⟨hz.1.trans (q1A hb _), ?_⟩
   split
   ·rename_i h
    rw [if_pos h] at hz
    obtain ⟨s, hs1, hs2⟩ := hz.2
    exact ⟨s, hs1, q01 hs2 hb⟩
   ·rename_i h
    rw [if_neg h] at hz
    exact q01 hz.2 hb
 case cs =>
  intro p hp v w1 w2 hG hR hE
  simp only [List.mem_cons, List.not_mem_nil, or_false] at hp
  rcases hp with rfl | rfl | rfl | rfl | rfl | rfl | rfl
  ·exact keep5 hR hE
  ·exact keep0 hR hE (by omega)
  ·exact OwnE.grown hR hE (by omega)
  ·exact keep5b hR hE (by omega)
  ·exact OwnE.grown hR hE (by omega)
  ·exact hR
  ·exact hR
 ·intro done vals w1 hB _ hZ hni hcl hdn _
  exact q1D (v := .slice (some ⟨w1.heap.size, 0, none⟩) 0 0) (w' := w1.alloc (.cells #[] 55)) rfl (by kernel_rfl) ⟨q21 rfl ⟨w1.heap.size, rfl, by have := hZ.1.size; omega, heap_alloc_new w1 _⟩ (q00 _ _), noturn rfl⟩
 ·intro done vals w1 hB _ hZ hni hcl hdn _
  refine q02 rfl ?_ ⟨q04 rfl, noturn rfl⟩
  kernel_rfl
 ·intro done vals w1 hB _ hZ hni hcl hdn _
  have hz : (w0.grownBy w1 (some S4) ∧ (if done 8 = true then (∃ s : Sl, vals 6 = .slice s.A s.n s.c ∧ w1.heap[S4]? = some (.cells (Cnf.cs { c with buf := s }).toArray 41 (0, 0))) else w1.heap[S4]? = some (.cells (Cnf.cs c).toArray 41 (0, 0)))) := hZ
  have h8 := hcl 8 _ rfl (by kernel_rfl)
  rw [if_neg (by rw [h8]; simp)] at hz
  refine q02 rfl ?_ ⟨q04 rfl, noturn rfl⟩
  exact q0A rfl (by kernel_rfl) (CellsAt.of_block hz.2 7 _ rfl) Try.underlying39 rfl
 ·intro done vals w1 hB _ hZ hni hcl hdn hd
  obtain ⟨g, e0, hg, hh⟩ : ∃ g, vals 0 = .slice (some ⟨g, 0, none⟩) 0 0 ∧ N0 ≤ g ∧ w1.heap[g]? = some (.cells #[] 55 (0, 0)) := hd 0 (by kernel_rfl)
  clear hd
  have hz : (w0.grownBy w1 (some S4) ∧ (if done 8 = true then (∃ s : Sl, vals 6 = .slice s.A s.n s.c ∧ w1.heap[S4]? = some (.cells (Cnf.cs { c with buf := s }).toArray 41 (0, 0))) else w1.heap[S4]? = some (.cells (Cnf.cs c).toArray 41 (0, 0)))) := hZ
  have h8 := hcl 8 _ rfl (by kernel_rfl)
  rw [if_neg (by rw [h8]; simp)] at hz
  have hrd : RdE w1 c.buf.A l := reads_grown HL.out hz.1 HO.out
  have hsz : N0 ≤ w1.heap.size := by have := hz.1.size; omega
  refine q36 rfl (.tmp 115) (.tmp 117) _ rfl N0 _ _ 8 48 Try.underlying39 info_ent rfl (by omega) (v := .slice (some ⟨g, 0, none⟩) 0 0) ?_ (own_empty hg hh) (A := c.buf.A) (m := c.buf.n) (c := c.buf.c) (by kernel_rfl) (by rw [HN.out]; exact hrd) (q33 l) (by simp only [maxLen]; omega) (by omega) hsz ?_
  ·rw [q0D e0]
   kernel_rfl
  intro v2 w2 h1 h2 _
  refine ⟨q16 rfl ?_ (hB.grown h2 (by omega) (fun k hk => by have hk : some g = some k := hk; injection hk with hk; omega)) trivial h2.size ?_, fun _ => ?_⟩
  ·show w2.ownsRow _ _ _ _ _ _
   rw [HN.out, Nat.zero_add] at h1
   exact h1
  ·exact keepNE_of h2 hh
  ·show (w0.grownBy w2 (some S4) ∧ (if (done 8 || 8 == 3) = true then (∃ s : Sl, (if 6 = 3 then v2 else vals 6) = .slice s.A s.n s.c ∧ w2.heap[S4]? = some (.cells (Cnf.cs { c with buf := s }).toArray 41 (0, 0))) else w2.heap[S4]? = some (.cells (Cnf.cs c).toArray 41 (0, 0))))
   rw [show (8 == 3) = false from rfl, Bool.or_false, if_neg (by rw [h8]; simp)]
   exact ⟨grown_new hz.1 h2 (fun k hk => by have hk : some g = some k := hk; injection hk with hk; omega), (h2.block S4 (Array.getElem?_eq_some_iff.1 hz.2).1 (by intro h; have h : some S4 = some g := h; injection h with h; omega)).trans hz.2⟩
 ·intro done vals w1 hB _ hZ hni hcl hdn _
  have hx : w1.heap[S10]? = some (.cells e.cs.toArray 55 (0, 0)) := (hZ.1.block S10 (by omega) (by intro h; injection h with h; omega)).trans X10.out
  refine q02 rfl ?_ ⟨q04 rfl, noturn rfl⟩
  exact q09 rfl (b := S10) (off := 0) (by kernel_rfl) e.cs (CellsAt.of_block hx) Try.underlying55 rfl (by kernel_rfl)
 ·intro done vals w1 hB _ hZ hni hcl hdn _
  exact q1D (v := .slice (some ⟨w1.heap.size, 0, none⟩) 1 1) (w' := w1.alloc (.cells e.cs.toArray 55)) rfl (by kernel_rfl) ⟨q21 rfl ⟨w1.heap.size, rfl, by have := hZ.1.size; omega, heap_alloc_new w1 _⟩ (q00 _ _), noturn rfl⟩
 ·intro done vals w1 hB _ hZ hni hcl hdn hd
  have d3 : OwnE w1 N0 (vals 3) l := hd 3 (by kernel_rfl)
  obtain ⟨g, e5, hg, hh⟩ : ∃ g, vals 5 = .slice (some ⟨g, 0, none⟩) 1 1 ∧ N0 ≤ g ∧ w1.heap[g]? = some (.cells e.cs.toArray 55 (0, 0)) := hd 5 (by kernel_rfl)
  clear hd
  have hz : (w0.grownBy w1 (some S4) ∧ (if done 8 = true then (∃ s : Sl, vals 6 = .slice s.A s.n s.c ∧ w1.heap[S4]? = some (.cells (Cnf.cs { c with buf := s }).toArray 41 (0, 0))) else w1.heap[S4]? = some (.cells (Cnf.cs c).toArray 41 (0, 0)))) := hZ
  have h8 := hcl 8 _ rfl (by kernel_rfl)
  rw [if_neg (by rw [h8]; simp)] at hz
  have hsz : N0 ≤ w1.heap.size := by have := hz.1.size; omega
  refine q36 rfl (.tmp 118) (.tmp 120) _ rfl N0 _ _ 8 48 Try.underlying39 info_ent rfl (by omega) (v := vals 3) (by kernel_rfl) d3 (A := some ⟨g, 0, none⟩) (m := 1) (c := 1) ?_ (q17 hh rfl) ?_ (by simp only [maxLen]; omega) (by omega) hsz ?_
  ·rw [q0D e5]
   kernel_rfl
  ·rw [← entCs_one]
   exact q33 [e]
  intro v2 w2 h1 h2 _
  refine ⟨q16 rfl ?_ (hB.grown h2 (by omega) (fun k hk => Nat.le_trans (show S4 ≤ N0 by omega) (d3.lt k hk).1)) trivial h2.size trivial, fun _ => ?_⟩
  ·show w2.ownsRow _ _ _ _ _ _
   rw [entCs_append, entCs_one, List.length_append]
   exact h1
  ·show (w0.grownBy w2 (some S4) ∧ (if (done 8 || 8 == 6) = true then (∃ s : Sl, (if 6 = 6 then v2 else vals 6) = .slice s.A s.n s.c ∧ w2.heap[S4]? = some (.cells (Cnf.cs { c with buf := s }).toArray 41 (0, 0))) else w2.heap[S4]? = some (.cells (Cnf.cs c).toArray 41 (0, 0))))
   rw [show (8 == 6) = false from rfl, Bool.or_false, if_neg (by rw [h8]; simp)]
   exact ⟨grown_new hz.1 h2 (fun k hk => Nat.le_trans (show w0.heap.size ≤ N0 by omega) (d3.lt k hk).1), (h2.block S4 (Array.getElem?_eq_some_iff.1 hz.2).1 (by intro h; have := (d3.lt S4 h.symm).1; omega)).trans hz.2⟩
 ·intro done vals w1 hB _ hZ hni hcl hdn _
  refine q02 rfl ?_ ⟨q04 rfl, noturn rfl⟩
  kernel_rfl
 ·intro done vals w1 hB _ hZ hni hcl hdn hd
  have d6 : OwnE w1 N0 (vals 6) (l ++ [e]) := hd 6 (by kernel_rfl)
  clear hd
  have hz : (w0.grownBy w1 (some S4) ∧ (if done 8 = true then (∃ s : Sl, vals 6 = .slice s.A s.n s.c ∧ w1.heap[S4]? = some (.cells (Cnf.cs { c with buf := s }).toArray 41 (0, 0))) else w1.heap[S4]? = some (.cells (Cnf.cs c).toArray 41 (0, 0)))) := hZ
  rw [if_neg (by rw [hni]; simp)] at hz
  obtain ⟨s, e6, hs6⟩ := d6.sl
  have hst := q08 w1 ⟨S4, 7, none⟩ (.slice s.A s.n s.c)
  refine q14 (w' := w1.setCell ⟨S4, 7, none⟩ (.slice s.A s.n s.c)) rfl ?_ ⟨q15 rfl (hB.setCell (Nat.le_refl _) _) trivial hst.size hst, fun _ => ?_⟩
  ·rw [q0D e6]
   exact q13 rfl (by kernel_rfl) (by kernel_rfl) (q22 (CellsAt.of_block hz.2 7 _ rfl) (frozen_of_row w1 S4 7 _ _ hz.2) (by kernel_rfl))
  ·refine ⟨hz.1.trans hst, ?_⟩
   rw [if_pos (by simp)]
   exact ⟨s, e6, heap_setCell_same w1 S4 7 _ _ _ hz.2⟩
 intro done vals w9 b9 _ hall hZ hr
 have d6 : OwnE w9 N0 (vals 6) (l ++ [e]) := hr 6 (by simp) (by simp)
 have hz : (w0.grownBy w9 (some S4) ∧ (if done 8 = true then (∃ s : Sl, vals 6 = .slice s.A s.n s.c ∧ w9.heap[S4]? = some (.cells (Cnf.cs { c with buf := s }).toArray 41 (0, 0))) else w9.heap[S4]? = some (.cells (Cnf.cs c).toArray 41 (0, 0)))) := hZ
 rw [if_pos (hall 8 (by simp))] at hz
 obtain ⟨hgr, s, e6, hs⟩ := hz
 rw [e6] at d6
 clear hZ hall hr
 simp only [fillT, Tell.is, Tell.makes, Tell.turns, Act.put, List.setIfInBounds_toArray, List.set_cons_zero, List.set_cons_succ]
 exact hQ _ _ _ _ _ _ _ _ w9 s d6 hs hgr
end
section
section
variable {w w' : World} {t t' : TypeId} {A : Option Addr} {n g : Nat}
theorem Tag.row (h : Tag w t A n) (hs : RowStep g t' w w') (ht : t' ≠ t) : Tag w' t A n := fun hn => by
 obtain ⟨ad, cs, fr, e, hh⟩ := h hn
 obtain ⟨⟨cs0, h1⟩, hg⟩ := hs
 refine ⟨ad, cs, fr, e, (hg.block _ (Array.getElem?_eq_some_iff.1 hh).1 ?_).trans hh⟩
 intro eb
 injection eb with eb
 rw [eb, h1] at hh
 injection hh with hh
 injection hh with _ hh
 exact ht hh
theorem Reads.row {size : Nat} {xs : List Value} (h : Reads w w.heap.size size A n xs) (htg : Tag w t A n) (hs : RowStep g t' w w') (ht : t' ≠ t) : Reads w' w'.heap.size size A n xs := by
 obtain ⟨⟨cs0, h1⟩, hg⟩ := hs
 refine ⟨h.1, fun hn => ?_⟩
 obtain ⟨ad, e, hsp, hb, hc⟩ := h.2 hn
 obtain ⟨ad', cs, fr, e', hh⟩ := htg hn
 rw [e] at e'
 injection e' with e'
 subst e'
 have hne : ad.block ≠ g := by
  intro eb
  rw [eb, h1] at hh
  injection hh with hh
  injection hh with _ hh
  exact ht hh
 refine ⟨ad, e, hsp, Nat.lt_of_lt_of_le hb hg.size, fun j u hu => ?_⟩
 rw [hg.cell_far ⟨ad.block, ad.off + j, none⟩ hb (by intro h; injection h with h; exact hne h)]
 exact hc j u hu
end
structure CfRest (w : World) (a b c : Sl) (la lb lc : List Int) : Prop where
 xa : RdIs w a la
 xb : RdIs w b lb
 xc : RdIs w c lc
 ta : Tag w 3 a.A a.n
 tb : Tag w 3 b.A b.n
 tc : Tag w 3 c.A c.n
theorem RdIs.row {w w' : World} {s : Sl} {l : List Int} {g : Nat} {t : TypeId} (h : RdIs w s l) (htg : Tag w 3 s.A s.n) (hs : RowStep g t w w') (ht : t ≠ 3) : RdIs w' s l := ⟨h.n, h.c, Reads.row h.r (by rw [← h.n]; exact htg) hs ht⟩
theorem CfRest.past {w w' : World} {a b c : Sl} {la lb lc : List Int} (h : CfRest w a b c la lb lc) (hb : Below w.heap.size w w') : CfRest w' a b c la lb lc := ⟨h.xa.past hb, h.xb.past hb, h.xc.past hb, h.ta.past hb, h.tb.past hb, h.tc.past hb⟩
theorem CfRest.row {w w' : World} {a b c : Sl} {la lb lc : List Int} {g : Nat} {t : TypeId} (h : CfRest w a b c la lb lc) (hs : RowStep g t w w') (ht : t ≠ 3) : CfRest w' a b c la lb lc :=
 ⟨h.xa.row h.ta hs ht, h.xb.row h.tb hs ht, h.xc.row h.tc hs ht, h.ta.row hs ht, h.tb.row hs ht, h.tc.row hs ht⟩
theorem CfRest.of {w : World} {c : Cnf} {m : Conf} (h : CfIs w c m) (ht : CfTy w c) : CfRest w c.st.mem c.st.stack c.rsb m.st.mem m.st.stack m.rsb := ⟨h.st.mem, h.st.stack, h.rsb, ht.mem, ht.stack, ht.rsb⟩
theorem q0F {w : World} {g j : Nat} {cs : Array Value} {t : TypeId} (h : w.heap[g]? = some (.cells cs t (0, 0))) (u : Value) : RowStep g t w (w.setCell ⟨g, j, none⟩ u) := ⟨⟨cs, h⟩, q08 w ⟨g, j, none⟩ u⟩
theorem grown10 (w : World) (g : Nat) (e : Cnf) : w.grownBy ((((((((((w.setCell ⟨g, 0, none⟩ (.int .i64 e.st.r0)).setCell ⟨g, 1, none⟩ (.int .i64 e.st.r1)).setCell ⟨g, 2, none⟩ (.int .i64 e.st.r2)).setCell ⟨g, 3, none⟩ (.int .i64 e.st.r3)).setCell ⟨g, 4, none⟩ (.slice e.st.mem.A e.st.mem.n e.st.mem.c)).setCell ⟨g, 5, none⟩ (.slice e.st.stack.A e.st.stack.n e.st.stack.c)).setCell ⟨g, 6, none⟩ (.int .i64 e.st.pc)).setCell
   ⟨g, 7, none⟩ (.slice e.buf.A e.buf.n e.buf.c)).setCell ⟨g, 8, none⟩ (.slice e.rsb.A e.rsb.n e.rsb.c)).setCell ⟨g, 9, none⟩ (.int .i64 e.fin)) (some g) :=
 (((((((((q08 w ⟨g, 0, none⟩ _).trans (q08 _ ⟨g, 1, none⟩ _)).trans (q08 _ ⟨g, 2, none⟩ _)).trans (q08 _ ⟨g, 3, none⟩ _)).trans (q08 _ ⟨g, 4, none⟩ _)).trans (q08 _ ⟨g, 5, none⟩ _)).trans (q08 _ ⟨g, 6, none⟩ _)).trans (q08 _ ⟨g, 7, none⟩ _)).trans (q08 _ ⟨g, 8, none⟩ _)).trans (q08 _ ⟨g, 9, none⟩ _)
def CfAnd (m : Conf) (w : World) (en : Ending) (w' : World) : Prop := ∃ c : Cnf, en = .returned (.tuple #[c.v, .bool true]) ∧ CfIs w' c m ∧ CfTy w' c ∧ Below w.heap.size w w'
end
section
set_option maxRecDepth 100000 in
set_option maxHeartbeats 60000000 in
theorem do_at (p : Prg) (il : List Inst) (c : Cnf) (m : Conf) (k : Nat) (hk : k < m.buf.length) (w : World) (hp : PIs w p il) (hW : p.W = 1 ∨ p.W = 2) (hop : ∀ y ∈ il, (y.kind = 1 ∨ y.kind = 5) → 1 ≤ y.op ∧ y.op ≤ 10) (hc : CfIs w c m)
  (hln : m.buf.length ≤ 1000) (hml : m.st.mem.length ≤ 1000) (hsl : m.st.stack.length ≤ 1000) (hcan : canOf p.W il m k = true) :
  Calls Try.prog 70 #[p.v, c.v, .int .i64 (k : Int)] w (DoPost c (doOut p.W il m k { m.buf[k] with done := true } (instAt il m.buf[k].pc)).1 (doOut p.W il m k { m.buf[k] with done := true } (instAt il m.buf[k].pc)).2 w) := by
 have hci : openOf il m k = true ∧ canIn p.W il m k (instAt il m.buf[k].pc) = true := by
  unfold canOf at hcan
  split at hcan
  ·rw [Int.toNat_natCast, List.getElem?_eq_getElem hk] at hcan
   simp only at hcan
   split at hcan
   ·cases hcan
   ·exact ⟨by assumption, hcan⟩
  ·cases hcan
 have hkind : (instAt il m.buf[k].pc).kind = 1 ∨ (instAt il m.buf[k].pc).kind = 5 ∨ (instAt il m.buf[k].pc).kind = 4 ∨ (instAt il m.buf[k].pc).kind = 2 ∨ (instAt il m.buf[k].pc).kind = 3 ∨ (instAt il m.buf[k].pc).kind = 7 ∨ (instAt il m.buf[k].pc).kind = 9 := by
  have h := hci.2
  unfold canIn at h
  simp only at h
  by_cases h1 : (instAt il m.buf[k].pc).kind = 1 ∨ (instAt il m.buf[k].pc).kind = 5
  ·omega
  ·rw [if_neg h1] at h
   by_cases h4 : (instAt il m.buf[k].pc).kind = 4
   ·omega
   ·rw [if_neg h4] at h
    by_cases h2 : (instAt il m.buf[k].pc).kind = 2
    ·omega
    ·rw [if_neg h2] at h
     by_cases h3 : (instAt il m.buf[k].pc).kind = 3
     ·omega
     ·rw [if_neg h3] at h
      by_cases h7 : (instAt il m.buf[k].pc).kind = 7
      ·omega
      ·rw [if_neg h7] at h
       have : (instAt il m.buf[k].pc).kind = 9 := by simpa using h
       omega
 rcases hkind with h | h | h | h | h | h | h
 ·exact do_atA p il c m k hk w hp hW hop hc hln hml hsl hcan (by omega)
 ·exact do_atB p il c m k hk w hp hW hop hc hln hml hsl hcan (by omega)
 ·exact do_atA p il c m k hk w hp hW hop hc hln hml hsl hcan (by omega)
 ·exact do_atC p il c m k hk w hp hW hop hc hln hml hsl hcan (by omega)
 ·exact do_atA p il c m k hk w hp hW hop hc hln hml hsl hcan (by omega)
 ·exact do_atB p il c m k hk w hp hW hop hc hln hml hsl hcan (by omega)
 ·exact do_atD p il c m k hk w hp hW hop hc hln hml hsl hcan (by omega)
end
section
def addrOut (W : Int) (il : List Inst) (m : Conf) (k : Nat) (e : Ent) (x : Inst) : List Ent × Int :=
 let ad := maskW W ((aOf W il m k x).1 + (bOf W il m k x).1)
 let e1 := { e with addr := ad, known := true }
 if (m.st.mem.length : Int) ≤ ad then (m.buf.set k { e1 with fault := true }, m.st.pc)
 else match hazOf il (m.buf.set k e1) k ad with
  | none => (m.buf.set k e1, m.st.pc)
  | some j => ((m.buf.set k e1).take j, (((m.buf.set k e1)[j]?).map Ent.pc).getD 0)
theorem haz_lt (il : List Inst) (i addr : Int) : ∀ (l : List Ent) (k j : Nat), hazL il i addr l k = some j → k ≤ j ∧ j < k + l.length
 | [], k, j, h => by rw [hazL] at h; cases h
 | e :: t, k, j, h => by
  rw [hazL] at h
  split at h
  ·injection h with h; subst h; simp
  ·have := haz_lt il i addr t (k + 1) j h; simp; omega
set_option maxRecDepth 100000 in
set_option maxHeartbeats 20000000 in
theorem addr_at (p : Prg) (il : List Inst) (c : Cnf) (m : Conf) (k : Nat) (hk : k < m.buf.length) (w : World) (hp : PIs w p il) (hW : p.W = 1 ∨ p.W = 2) (hc : CfIs w c m)
  (hln : m.buf.length ≤ 1000) (hml : m.st.mem.length ≤ 1000) (hsl : m.st.stack.length ≤ 1000) (hcan : canAddrOf p.W il m k = true) :
  Calls Try.prog 71 #[p.v, c.v, .int .i64 (k : Int)] w (DoPost c (addrOut p.W il m k m.buf[k] (instAt il m.buf[k].pc)).1 (addrOut p.W il m k m.buf[k] (instAt il m.buf[k].pc)).2 w) := by
 have HC := Kept.mk hc
 have HP := Kept.mk hp
 have HCan := Kept.mk (fun w1 h1 h2 => canAddr_any p il c m k w1 h1 hW h2 (by omega))
 rw [hcan] at HCan
 have hfin : m.fin = 0 := by
  unfold canAddrOf at hcan
  split at hcan
  ·rename_i ho
   unfold openOf at ho
   simp only [Bool.and_eq_true, decide_eq_true_eq] at ho
   exact ho.1.1
  ·cases hcan
 have HT0 := Kept.mk (fun c1 m1 x w1 h1 h2 h3 => told_any p il c1 m1 k x w1 h1 hW h2 h3)
 have HMw : Kept (∀ (n : Int) (w : World), Calls Try.prog 73 #[.int .i64 p.W, .int .i64 (wrap64 n)] w fun en w' => en = .returned (.int .i64 (maskW p.W n)) ∧ w = w') := ⟨fun n w => by have := q23 p.W (wrap64 n) hW w; rwa [q32 p.W n hW] at this⟩
 clear hcan hp hW
 obtain ⟨⟨r0, r1, r2, r3, ⟨mA, mN, mC⟩, ⟨sA, sN, sC⟩, pc⟩, ⟨bA, bN, bC⟩, ⟨qA, qN, qC⟩, fin⟩ := c
 obtain ⟨⟨q0, q1, q2, q3, mem, stack, qc⟩, l, rsb, qf⟩ := m
 obtain ⟨⟨h0, h1, h2, h3, ⟨hmn, hmc, hmr⟩, ⟨hsn, hsc, hsr⟩, hpc⟩, ⟨hbn, hbc, hbr⟩, ⟨hqn, hqc, hqr⟩, hf⟩ := hc
 simp only at h0 h1 h2 h3 hpc hf hbn hbc hbr hln hmn hmc hmr hml hsn hsc hsr hsl hfin hk
 subst h0 h1 h2 h3 hpc hf hbn hmn hsn
 subst hfin
 simp only at HCan HC ⊢
 have HMR := Kept.mk hmr
 have HSR := Kept.mk hsr
 have HBR := Kept.mk hbr
 have HQR := Kept.mk (show RdIs w ⟨qA, qN, qC⟩ rsb from ⟨hqn, hqc, hqr⟩)
 clear hmr hsr hbr hqn hqc hqr
 generalize hx : instAt il l[k].pc = x
 have HAT : Kept (∀ w1, PIs w1 p il → Calls Try.prog 62 #[p.v, .int .i64 l[k].pc] w1 fun en w' => en = .returned x.v ∧ Below w1.heap.size w1 w') := ⟨fun w1 h => by rw [← hx]; exact at7 p il l[k].pc w1 h⟩
 clear hx
 generalize hOUT : addrOut p.W il ⟨⟨r0, r1, r2, r3, mem, stack, pc⟩, l, rsb, 0⟩ k l[k] x = OUT
 have HOUT := Kept.mk hOUT
 clear hOUT
 go_enter Try.func71, Try.ntmps71
 go_wp2_with fail
 have HB := Kept.mk (((q00 w (.cells p.cs.toArray 33)).alloc (by simp) (.cells (Cnf.cs ⟨⟨r0, r1, r2, r3, ⟨mA, mem.length, mC⟩, ⟨sA, stack.length, sC⟩, pc⟩, ⟨bA, l.length, bC⟩, ⟨qA, qN, qC⟩, 0⟩).toArray 41)).alloc (by simp; omega) (.cells Cnf.zero.cs.toArray 41))
 refine (HCan.out _ (HP.out.past HB.out) (HC.out.past HB.out)).mono ?_
 rintro en w1 ⟨rfl, b1⟩
 have W1 := Kept.mk (HB.out.trans (b1.mono HB.out.size))
 have X3 := (b1.block w.heap.size (by simp <;> omega)).trans ((heap_alloc_old _ _ (by simp; omega)).trans ((heap_alloc_old _ _ (by simp)).trans (heap_alloc_new w (.cells p.cs.toArray 33))))
 have X4 := (b1.block (w.heap.size + 1) (by simp <;> omega)).trans ((heap_alloc_old _ _ (by simp)).trans (heap_alloc2_new w (.cells p.cs.toArray 33) (.cells (Cnf.cs ⟨⟨r0, r1, r2, r3, ⟨mA, mem.length, mC⟩, ⟨sA, stack.length, sC⟩, pc⟩, ⟨bA, l.length, bC⟩, ⟨qA, qN, qC⟩, 0⟩).toArray 41)))
 have X6 := (b1.block (w.heap.size + 1 + 1) (by simp <;> omega)).trans (q06 (o := (.cells Cnf.zero.cs.toArray 41)) (by simp))
 have S1 : w.heap.size + 3 ≤ w1.heap.size := by have := b1.size; simp at this; omega
 have Y4 := fun j => cell_of_row w1 (w.heap.size + 1) j _ _ _ X4
 simp only [Cnf.cs] at Y4
 have K3 := Kept.mk X3
 have K4 := Kept.mk X4
 have K6 := Kept.mk X6
 have y7 : ∀ o, (w1.alloc o).cell? ⟨w.heap.size + 1, 7, none⟩ = some (.slice bA l.length bC) := fun o => ((q00 w1 o).cell (p := ⟨w.heap.size + 1, 7, none⟩) (by show w.heap.size + 1 < _; omega)).trans (by rw [Y4]; rfl)
 clear X3 X4 X6 b1
 go_wp2_with (at_builtin; go_must (refine append_ents _ rfl (.tmp 24) (.tmp 26) rfl w1.heap.size rfl (OwnE.made (Nat.le_refl _)) (m := l) rfl ((HBR.out.past W1.out).past (q00 _ _)) (by simp; omega) (by simp) ?_))
 intro v2 w2 h2 hg2 b2
 obtain ⟨g, hv2, hgB, hgl, hcel, hfz⟩ : ∃ g, (∃ c2, v2 = .slice (some ⟨g, 0, none⟩) l.length c2 ∧ l.length ≤ c2) ∧ w1.heap.size ≤ g ∧ g < w2.heap.size ∧ CellsAt w2 g (k * 8) l[k].cs ∧ ∀ j, w2.frozen? ⟨g, j, none⟩ = false := by
  obtain ⟨A2, c2, rfl, hc2, -⟩ := h2.shape
  obtain ⟨g, rfl, a1, a2, a3, a4⟩ := h2.el hk
  exact ⟨g, ⟨c2, rfl, hc2⟩, a1, a2, a3, a4⟩
 obtain ⟨c2, rfl, hc2⟩ := hv2
 have b2' := (q00 w1 (.cells #[] 55)).trans (b2.mono (Nat.le_refl _))
 have W2 := Kept.mk (W1.out.trans (b2'.mono W1.out.size))
 have X3 := q01 K3.out b2'
 have X4 := q01 K4.out b2'
 have X6 := q01 K6.out b2'
 have Y4' := fun j => cell_of_row w2 (w.heap.size + 1) j _ _ _ X4
 simp only [Cnf.cs] at Y4'
 have f7 := frozen_of_row w2 (w.heap.size + 1) 7 _ _ X4
 have H2 := Kept.mk h2
 have S2 : w1.heap.size ≤ w2.heap.size := b2'.size
 have hne4 : g ≠ w.heap.size + 1 := by omega
 clear y7 Y4 K3 K4 K6 hg2 b2 b2' hcel hfz h2
 have K3 := Kept.mk X3
 have K4 := Kept.mk X4
 have K6 := Kept.mk X6
 clear X3 X4 X6
 go_wp2_with fail
 have hgw : w.heap.size + 3 ≤ g := by omega
 have W3 := Kept.mk (W2.out.setCell (p := ⟨w.heap.size + 1, 7, none⟩) (by show w.heap.size ≤ w.heap.size + 1; omega) (.slice (some ⟨g, 0, none⟩) l.length c2))
 have X3 := q03 (p := ⟨w.heap.size + 1, 7, none⟩) (u := .slice (some ⟨g, 0, none⟩) l.length c2) K3.out (by simp)
 have X4 := heap_setCell_same w2 (w.heap.size + 1) 7 _ _ (.slice (some ⟨g, 0, none⟩) l.length c2) K4.out
 rw [show (Cnf.cs ⟨⟨r0, r1, r2, r3, ⟨mA, mem.length, mC⟩, ⟨sA, stack.length, sC⟩, pc⟩, ⟨bA, l.length, bC⟩, ⟨qA, qN, qC⟩, 0⟩).toArray.setIfInBounds 7 (.slice (some ⟨g, 0, none⟩) l.length c2) = (Cnf.cs ⟨⟨r0, r1, r2, r3, ⟨mA, mem.length, mC⟩, ⟨sA, stack.length, sC⟩, pc⟩, ⟨some ⟨g, 0, none⟩, l.length, c2⟩, ⟨qA, qN, qC⟩, 0⟩).toArray from rfl] at X4
 have X6 := q03 (p := ⟨w.heap.size + 1, 7, none⟩) (u := .slice (some ⟨g, 0, none⟩) l.length c2) K6.out (by simp)
 have h3 := OwnE.far H2.out (p := ⟨w.heap.size + 1, 7, none⟩) (by show w.heap.size + 1 < _; omega) (.slice (some ⟨g, 0, none⟩) l.length c2)
 have hs3 : g < (w2.setCell ⟨w.heap.size + 1, 7, none⟩ (.slice (some ⟨g, 0, none⟩) l.length c2)).heap.size := by simpa [World.setCell] using hgl
 generalize w2.setCell ⟨w.heap.size + 1, 7, none⟩ (.slice (some ⟨g, 0, none⟩) l.length c2) = w3 at *
 have H3 := Kept.mk h3
 have HPX := q24 X3
 have HCX := q24 X4
 obtain ⟨g', hge, -, -, hcel, -⟩ := h3.el hk
 injection hge with hge
 injection hge with hge
 subst hge
 have HEX := hcel.kept hs3
 have K3 := Kept.mk X3
 have K4 := Kept.mk X4
 have K6 := Kept.mk X6
 have CF3 : Kept (CfIs w3 ⟨⟨r0, r1, r2, r3, ⟨mA, mem.length, mC⟩, ⟨sA, stack.length, sC⟩, pc⟩, ⟨some ⟨g, 0, none⟩, l.length, c2⟩, ⟨qA, qN, qC⟩, 0⟩ ⟨⟨r0, r1, r2, r3, mem, stack, pc⟩, l, rsb, 0⟩) := ⟨⟨rfl, rfl, rfl, rfl, ⟨rfl, hmc, HMR.out.past W3.out⟩, ⟨rfl, hsc, HSR.out.past W3.out⟩, rfl⟩, OwnE.is (s := ⟨some ⟨g, 0, none⟩, l.length, c2⟩) h3, HQR.out.past W3.out, rfl⟩
 clear h3 hcel X3 X4 X6 Y4' f7 H2 W2 hne4 hgl
 have HT := Kept.mk (fun x w1 h1 h2 => HT0.out ⟨⟨r0, r1, r2, r3, ⟨mA, mem.length, mC⟩, ⟨sA, stack.length, sC⟩, pc⟩, ⟨some ⟨g, 0, none⟩, l.length, c2⟩, ⟨qA, qN, qC⟩, 0⟩ ⟨⟨r0, r1, r2, r3, mem, stack, pc⟩, l, rsb, 0⟩ x w1 h1 h2 (by simp; omega))
 have hO := HOUT.out
 clear HOUT HT0
 unfold addrOut at hO
 simp only at hO
 have HTx := Kept.mk (fun w1 h1 h2 => HT.out x w1 h1 h2)
 generalize aOf p.W il ⟨⟨r0, r1, r2, r3, mem, stack, pc⟩, l, rsb, 0⟩ k x = a at hO HTx ⊢
 generalize bOf p.W il ⟨⟨r0, r1, r2, r3, mem, stack, pc⟩, l, rsb, 0⟩ k x = b at hO HTx ⊢
 generalize dOf il ⟨⟨r0, r1, r2, r3, mem, stack, pc⟩, l, rsb, 0⟩ k x = d at HTx ⊢
 obtain ⟨a1, a2⟩ := a
 obtain ⟨b1, b2⟩ := b
 obtain ⟨d1, d2⟩ := d
 simp only at hO HTx ⊢
 have HO := Kept.mk hO
 clear hO HT
 refine q1E (w3.heap.size) (G := fun _ => True) (ts := [
   .is (p.v),
   .is ((Cnf.v ⟨⟨r0, r1, r2, r3, ⟨mA, mem.length, mC⟩, ⟨sA, stack.length, sC⟩, pc⟩, ⟨some ⟨g, 0, none⟩, l.length, c2⟩, ⟨qA, qN, qC⟩, 0⟩)),
   .is (Value.int .i64 ((k : Int))),
   .is (p.v),
   .is (Value.pointer (some ⟨g, k * 8, none⟩)),
   .is (Value.pointer (some ⟨g, k * 8, none⟩)),
   .is (Value.pointer (some ⟨g, k * 8, none⟩)),
   .is (Value.int .i64 (l[k].pc)),
   .draws (x.v),
   .draws (Value.tuple #[.int .i64 (a1), .int .i64 (b1), .int .i64 (d1), .bool ((a2 && b2)), .bool d2]),
   .is (Value.tuple #[.int .i64 (a1), .int .i64 (b1), .int .i64 (d1), .bool ((a2 && b2)), .bool d2]),
   .is (Value.int .i64 (a1)),
   .is (Value.int .i64 (b1)),
   .is (Value.int .i64 (d1)),
   .is (Value.bool ((a2 && b2))),
   .is (Value.bool d2),
   .is (Value.int .i64 (a1)),
   .is (Value.int .i64 (b1)),
   .is (Value.int .i64 (d1)),
   .is (Value.bool ((a2 && b2))),
   .is (Value.bool d2)])
  (fin := []) (cs := []) (by kernel_rfl) rfl (by kernel_rfl) (by kernel_rfl)
  ⟨trivial, trivial, trivial, trivial, trivial, trivial, trivial, trivial, trivial, trivial, trivial, trivial, trivial, trivial, trivial, trivial, trivial, trivial, trivial, trivial, trivial, trivial⟩ (fun _ _ _ _ => trivial) (by simp) (by simp) trivial
  ⟨?_, ?_, ?_, ?_, ?_, ?_, ?_, ?_, ?_, ?_, ?_, ?_, ?_, ?_, ?_, ?_, ?_, ?_, ?_, ?_, ?_, trivial⟩ ?_
 ·intro vals w1 hB _ _
  refine q02 rfl ?_ (q04 rfl)
  exact q09 rfl (b := w.heap.size) (off := 0) (by kernel_rfl) p.cs (HPX.out w1 hB) Try.underlying33 rfl (by kernel_rfl)
 ·intro vals w1 hB _ _
  refine q02 rfl ?_ (q04 rfl)
  exact q09 rfl (b := w.heap.size + 1) (off := 0) (by kernel_rfl) (Cnf.cs ⟨⟨r0, r1, r2, r3, ⟨mA, mem.length, mC⟩, ⟨sA, stack.length, sC⟩, pc⟩, ⟨some ⟨g, 0, none⟩, l.length, c2⟩, ⟨qA, qN, qC⟩, 0⟩) (HCX.out w1 hB) Try.underlying41 rfl (by kernel_rfl)
 ·intro vals w1 hB _ _
  refine q02 rfl ?_ (q04 rfl)
  kernel_rfl
 ·intro vals w1 hB _ _
  refine q02 rfl ?_ (q04 rfl)
  exact q09 rfl (b := w.heap.size) (off := 0) (by kernel_rfl) p.cs (HPX.out w1 hB) Try.underlying33 rfl (by kernel_rfl)
 ·intro vals w1 hB _ _
  refine q02 rfl ?_ (q04 rfl)
  kernel_rfl
 ·intro vals w1 hB _ _
  refine q02 rfl ?_ (q04 rfl)
  kernel_rfl
 ·intro vals w1 hB _ _
  refine q02 rfl ?_ (q04 rfl)
  kernel_rfl
 ·intro vals w1 hB _ _
  refine q02 rfl ?_ (q04 rfl)
  exact q0A rfl (by kernel_rfl) ((HEX.out w1 hB) 0 _ rfl) Try.underlying3 rfl
 ·intro vals w1 hB _ _
  refine q12 (f := 62) (args := #[p.v, .int .i64 (l[k].pc)]) (w1 := w1) rfl (by kernel_rfl) ?_
  refine (HAT.out w1 ((HP.out.past W3.out).past hB)).mono ?_
  rintro e1 w2 ⟨rfl, h2⟩
  exact ⟨_, rfl, q18 rfl h2⟩
 ·intro vals w1 hB _ _
  refine q12 (f := 93) (args := #[p.v, (Cnf.v ⟨⟨r0, r1, r2, r3, ⟨mA, mem.length, mC⟩, ⟨sA, stack.length, sC⟩, pc⟩, ⟨some ⟨g, 0, none⟩, l.length, c2⟩, ⟨qA, qN, qC⟩, 0⟩), .int .i64 ((k : Int)), x.v]) (w1 := w1) rfl (by kernel_rfl) ?_
  refine (HTx.out w1 ((HP.out.past W3.out).past hB) (CF3.out.past hB)).mono ?_
  rintro e1 w2 ⟨rfl, h2⟩
  exact ⟨_, rfl, q18 rfl h2⟩
 ·intro vals w1 hB _ _
  refine q02 rfl ?_ (q04 rfl)
  kernel_rfl
 ·intro vals w1 hB _ _
  refine q02 rfl ?_ (q04 rfl)
  kernel_rfl
 ·intro vals w1 hB _ _
  refine q02 rfl ?_ (q04 rfl)
  kernel_rfl
 ·intro vals w1 hB _ _
  refine q02 rfl ?_ (q04 rfl)
  kernel_rfl
 ·intro vals w1 hB _ _
  refine q02 rfl ?_ (q04 rfl)
  kernel_rfl
 ·intro vals w1 hB _ _
  refine q02 rfl ?_ (q04 rfl)
  kernel_rfl
 ·intro vals w1 hB _ _
  refine q02 rfl ?_ (q04 rfl)
  kernel_rfl
 ·intro vals w1 hB _ _
  refine q02 rfl ?_ (q04 rfl)
  kernel_rfl
 ·intro vals w1 hB _ _
  refine q02 rfl ?_ (q04 rfl)
  kernel_rfl
 ·intro vals w1 hB _ _
  refine q02 rfl ?_ (q04 rfl)
  kernel_rfl
 ·intro vals w1 hB _ _
  refine q02 rfl ?_ (q04 rfl)
  kernel_rfl
 intro vals w6 b6 _ hr
 clear hr
 simp only [fillT, Tell.is, Tell.draws, Act.put, List.setIfInBounds_toArray, List.set_cons_zero, List.set_cons_succ]
 have W6 := Kept.mk (W3.out.trans (b6.mono W3.out.size))
 have X3 := q01 K3.out b6
 have X4 := q01 K4.out b6
 have X6 := q01 K6.out b6
 have H6 := Kept.mk (H3.out.past b6)
 have S6 : g < w6.heap.size := Nat.lt_of_lt_of_le hs3 b6.size
 clear K3 K4 K6 b6 HPX HCX HEX H3 CF3
 have Y3 := fun j => cell_of_row w6 w.heap.size j _ _ _ X3
 have Y4 := fun j => cell_of_row w6 (w.heap.size + 1) j _ _ _ X4
 have F4 := fun j => frozen_of_row w6 (w.heap.size + 1) j _ _ X4
 have Y6 := fun j => cell_of_row w6 (w.heap.size + 1 + 1) j _ _ _ X6
 have F6 := fun j => frozen_of_row w6 (w.heap.size + 1 + 1) j _ _ X6
 simp only [Prg.cs, Cnf.cs, Cnf.zero, Sl.none] at Y3 Y4 Y6
 have K3 := Kept.mk X3
 have K4 := Kept.mk X4
 have K6 := Kept.mk X6
 clear X3 X4 X6
 obtain ⟨g', hge, -, -, hcel, hfz⟩ := H6.out.el hk
 injection hge with hge
 injection hge with hge
 subst hge
 have hng3 : g ≠ w.heap.size := by omega
 have hng4 : g ≠ w.heap.size + 1 := by omega
 have hng6 : g ≠ w.heap.size + 1 + 1 := by omega
 obtain ⟨NB, hNB⟩ : ∃ NB, w1.heap.size = NB := ⟨_, rfl⟩
 rw [hNB] at S1 S2 hgB H6
 have c2' := hcel 2 (.int .i64 l[k].addr) rfl
 have f2 := hfz (k * 8 + 2)
 have c6 := hcel 6 (.bool l[k].known) rfl
 have f6 := hfz (k * 8 + 6)
 have c7 := hcel 7 (.bool l[k].fault) rfl
 have f7 := hfz (k * 8 + 7)
 clear hcel hfz
 have H6 : Kept (OwnE w6 NB (.slice (some ⟨g, 0, none⟩) l.length c2) (l.set k l[k])) := ⟨by rw [List.set_getElem_self hk]; exact H6.out⟩
 go_wp2_with fail
 refine (HMw.out _ _).mono ?_
 rintro en w' ⟨rfl, rfl⟩
 generalize maskW p.W (a1 + b1) = ad at HO ⊢
 by_cases hml2 : (mem.length : Int) ≤ ad
 ·have HO2 := Kept.mk (HO.out.symm.trans (if_pos hml2))
  clear HO
  go_wp2_with fail
  have X7 := Kept.mk (q03 (p := ⟨g, k * 8 + 2, none⟩) (u := .int .i64 ad) K6.out (by show g ≠ w.heap.size + 1 + 1; omega))
  have hz := H6.out.setAt (by simp) (k := k) (by simpa using hk) (j := 2) (u := .int .i64 ad) (e' := { l[k] with addr := ad }) (by omega) (by rw [List.getElem_set_self]; rfl)
  rw [List.set_set] at hz
  have W7 := Kept.mk (W6.out.setCell (p := ⟨g, k * 8 + 2, none⟩) (by show w.heap.size ≤ g; omega) (.int .i64 ad))
  have H7 := Kept.mk hz
  clear hz
  have X8 := Kept.mk (q03 (p := ⟨g, k * 8 + 6, none⟩) (u := .bool true) X7.out (by show g ≠ w.heap.size + 1 + 1; omega))
  have hz := H7.out.setAt (by simp) (k := k) (by simpa using hk) (j := 6) (u := .bool true) (e' := { l[k] with addr := ad, known := true }) (by omega) (by rw [List.getElem_set_self]; rfl)
  rw [List.set_set] at hz
  have W8 := Kept.mk (W7.out.setCell (p := ⟨g, k * 8 + 6, none⟩) (by show w.heap.size ≤ g; omega) (.bool true))
  have H8 := Kept.mk hz
  clear hz
  have X9 := Kept.mk (q03 (p := ⟨g, k * 8 + 7, none⟩) (u := .bool true) X8.out (by show g ≠ w.heap.size + 1 + 1; omega))
  have hz := H8.out.setAt (by simp) (k := k) (by simpa using hk) (j := 7) (u := .bool true) (e' := { l[k] with addr := ad, known := true, fault := true }) (by omega) (by rw [List.getElem_set_self]; rfl)
  rw [List.set_set] at hz
  have W9 := Kept.mk (W8.out.setCell (p := ⟨g, k * 8 + 7, none⟩) (by show w.heap.size ≤ g; omega) (.bool true))
  have H9 := Kept.mk hz
  clear hz
  have hown := (own10 (g := w.heap.size + 1 + 1) ⟨⟨r0, r1, r2, r3, ⟨mA, mem.length, mC⟩, ⟨sA, stack.length, sC⟩, pc⟩, ⟨some ⟨g, 0, none⟩, l.length, c2⟩, ⟨qA, qN, qC⟩, 0⟩ H9.out (by omega)).lower (show w.heap.size ≤ NB by omega)
  have hbel := below10 (g := w.heap.size + 1 + 1) ⟨⟨r0, r1, r2, r3, ⟨mA, mem.length, mC⟩, ⟨sA, stack.length, sC⟩, pc⟩, ⟨some ⟨g, 0, none⟩, l.length, c2⟩, ⟨qA, qN, qC⟩, 0⟩ W9.out (by omega)
  have hres := q11 Cnf.zero ⟨⟨r0, r1, r2, r3, ⟨mA, mem.length, mC⟩, ⟨sA, stack.length, sC⟩, pc⟩, ⟨some ⟨g, 0, none⟩, l.length, c2⟩, ⟨qA, qN, qC⟩, 0⟩ X9.out
  dsimp only at hown hbel hres
  refine q0C _ [Cnf.v ⟨⟨r0, r1, r2, r3, ⟨mA, mem.length, mC⟩, ⟨sA, stack.length, sC⟩, pc⟩, ⟨some ⟨g, 0, none⟩, l.length, c2⟩, ⟨qA, qN, qC⟩, 0⟩, .slice none 0 0, .bool true] Try.results71 (.cons (.cell (cs := Cnf.cs ⟨⟨r0, r1, r2, r3, ⟨mA, mem.length, mC⟩, ⟨sA, stack.length, sC⟩, pc⟩, ⟨some ⟨g, 0, none⟩, l.length, c2⟩, ⟨qA, qN, qC⟩, 0⟩) (b := w.heap.size + 1 + 1) (off := 0) rfl rfl (q05 hres) Try.underlying41 rfl (by kernel_rfl)) (.cons (.tmp rfl) (.cons (.tmp rfl) .nil))) rfl ?_
  refine ⟨⟨⟨r0, r1, r2, r3, ⟨mA, mem.length, mC⟩, ⟨sA, stack.length, sC⟩, pc⟩, ⟨some ⟨g, 0, none⟩, l.length, c2⟩, ⟨qA, qN, qC⟩, 0⟩, _, rfl, by rw [HO2.out], ?_, rfl, rfl, hbel⟩
  rw [HO2.out]
  exact hown
 ·have HO1 := Kept.mk (HO.out.symm.trans (if_neg hml2))
  clear HO
  go_wp2_with fail
  have X7 := Kept.mk (q03 (p := ⟨g, k * 8 + 2, none⟩) (u := .int .i64 ad) K6.out (by show g ≠ w.heap.size + 1 + 1; omega))
  have hz := H6.out.setAt (by simp) (k := k) (by simpa using hk) (j := 2) (u := .int .i64 ad) (e' := { l[k] with addr := ad }) (by omega) (by rw [List.getElem_set_self]; rfl)
  rw [List.set_set] at hz
  have W7 := Kept.mk (W6.out.setCell (p := ⟨g, k * 8 + 2, none⟩) (by show w.heap.size ≤ g; omega) (.int .i64 ad))
  have H7 := Kept.mk hz
  clear hz
  have X8 := Kept.mk (q03 (p := ⟨g, k * 8 + 6, none⟩) (u := .bool true) X7.out (by show g ≠ w.heap.size + 1 + 1; omega))
  have hz := H7.out.setAt (by simp) (k := k) (by simpa using hk) (j := 6) (u := .bool true) (e' := { l[k] with addr := ad, known := true }) (by omega) (by rw [List.getElem_set_self]; rfl)
  rw [List.set_set] at hz
  have W8 := Kept.mk (W7.out.setCell (p := ⟨g, k * 8 + 6, none⟩) (by show w.heap.size ≤ g; omega) (.bool true))
  have H8 := Kept.mk hz
  clear hz
  have X4 := q03 (p := ⟨g, k * 8 + 6, none⟩) (u := .bool true) (q03 (p := ⟨g, k * 8 + 2, none⟩) (u := .int .i64 ad) K4.out (by show g ≠ w.heap.size + 1; omega)) (by show g ≠ w.heap.size + 1; omega)
  have SL : g < ((w6.setCell ⟨g, k * 8 + 2, none⟩ (.int .i64 ad)).setCell ⟨g, k * 8 + 6, none⟩ (.bool true)).heap.size := by simpa [World.setCell] using S6
  have KL4 := Kept.mk X4
  clear X4 X7 H7 W7 Y3 Y4 Y6 F6 F4 K3 K4 K6 H6 c2' f2 c6 f6 c7 f7
  generalize (w6.setCell ⟨g, k * 8 + 2, none⟩ (.int .i64 ad)).setCell ⟨g, k * 8 + 6, none⟩ (.bool true) = wl at *
  generalize hLL : l.set k { l[k] with addr := ad, known := true } = LL at *
  have hLN : LL.length = l.length := by rw [← hLL, List.length_set]
  have HLz := Kept.mk (fun w1 h1 h2 => hazard_any p il (some ⟨g, 0, none⟩) c2 LL k ad w1 h1 h2 (by omega))
  rw [hLN] at HLz
  have hzl : ∀ j, hazOf il LL k ad = some j → j < l.length := fun j h => by
   have := haz_lt il k ad _ _ j h
   simp only [List.length_drop, hLN] at this
   omega
  have HLN := Kept.mk hLN
  clear hLL hLN
  refine (HLz.out _ (HP.out.past W8.out) (OwnE.is (s := ⟨some ⟨g, 0, none⟩, l.length, c2⟩) H8.out).r).mono ?_
  rintro en wh ⟨rfl, b9⟩
  have X4 := q01 KL4.out b9
  have X6 := q01 X8.out b9
  have HH := Kept.mk (H8.out.past b9)
  have WH := Kept.mk (W8.out.trans (b9.mono W8.out.size))
  have SH : g < wh.heap.size := Nat.lt_of_lt_of_le SL b9.size
  clear KL4 X8 H8 W8 b9 HLz SL
  generalize hazOf il LL k ad = HZ at HO1 hzl ⊢
  cases HZ with
  | none =>
   have HO2 : Kept (OUT = (LL, pc)) := ⟨HO1.out⟩
   have Y4 := fun j => cell_of_row wh (w.heap.size + 1) j _ _ _ X4
   have Y4a : ∀ ob j, (wh.alloc ob).cell? ⟨w.heap.size + 1, j, none⟩ = (Cnf.cs ⟨⟨r0, r1, r2, r3, ⟨mA, mem.length, mC⟩, ⟨sA, stack.length, sC⟩, pc⟩, ⟨some ⟨g, 0, none⟩, l.length, c2⟩, ⟨qA, qN, qC⟩, 0⟩).toArray[j]? := fun ob j => ((q00 wh ob).cell (p := ⟨w.heap.size + 1, j, none⟩) (by show w.heap.size + 1 < _; omega)).trans (cell_of_row wh (w.heap.size + 1) j _ _ _ X4)
   have Y6 : ∀ ob j, (wh.alloc ob).cell? ⟨w.heap.size + 1 + 1, j, none⟩ = (Cnf.cs Cnf.zero).toArray[j]? := fun ob j => ((q00 wh ob).cell (p := ⟨w.heap.size + 1 + 1, j, none⟩) (by show w.heap.size + 1 + 1 < _; omega)).trans (cell_of_row wh (w.heap.size + 1 + 1) j _ _ _ X6)
   have F6 : ∀ ob j, (wh.alloc ob).frozen? ⟨w.heap.size + 1 + 1, j, none⟩ = false := fun ob j => ((q00 wh ob).frozen (p := ⟨w.heap.size + 1 + 1, j, none⟩) (by show w.heap.size + 1 + 1 < _; omega)).trans (frozen_of_row wh (w.heap.size + 1 + 1) j _ _ X6)
   simp only [Cnf.cs, Cnf.zero, Sl.none] at Y4 Y4a Y6
   have X9 := Kept.mk (q01 X6 (q00 wh (.cells #[.int .i64 2, .int .i64 ad] 124)))
   have H9 := Kept.mk (HH.out.past (q00 wh (.cells #[.int .i64 2, .int .i64 ad] 124)))
   have W9 := Kept.mk (WH.out.trans ((q00 wh (.cells #[.int .i64 2, .int .i64 ad] 124)).mono WH.out.size))
   clear X4 X6 hzl
   go_wp2_with fail
   have hown := (own10 (g := w.heap.size + 1 + 1) ⟨⟨r0, r1, r2, r3, ⟨mA, mem.length, mC⟩, ⟨sA, stack.length, sC⟩, pc⟩, ⟨some ⟨g, 0, none⟩, l.length, c2⟩, ⟨qA, qN, qC⟩, 0⟩ H9.out (by omega)).lower (show w.heap.size ≤ NB by omega)
   have hbel := below10 (g := w.heap.size + 1 + 1) ⟨⟨r0, r1, r2, r3, ⟨mA, mem.length, mC⟩, ⟨sA, stack.length, sC⟩, pc⟩, ⟨some ⟨g, 0, none⟩, l.length, c2⟩, ⟨qA, qN, qC⟩, 0⟩ W9.out (by omega)
   have hres := q11 Cnf.zero ⟨⟨r0, r1, r2, r3, ⟨mA, mem.length, mC⟩, ⟨sA, stack.length, sC⟩, pc⟩, ⟨some ⟨g, 0, none⟩, l.length, c2⟩, ⟨qA, qN, qC⟩, 0⟩ X9.out
   dsimp only at hown hbel hres
   refine q0C _ [Cnf.v ⟨⟨r0, r1, r2, r3, ⟨mA, mem.length, mC⟩, ⟨sA, stack.length, sC⟩, pc⟩, ⟨some ⟨g, 0, none⟩, l.length, c2⟩, ⟨qA, qN, qC⟩, 0⟩, .slice (some ⟨wh.heap.size, 0, none⟩) 1 1, .bool true] Try.results71 (.cons (.cell (cs := Cnf.cs ⟨⟨r0, r1, r2, r3, ⟨mA, mem.length, mC⟩, ⟨sA, stack.length, sC⟩, pc⟩, ⟨some ⟨g, 0, none⟩, l.length, c2⟩, ⟨qA, qN, qC⟩, 0⟩) (b := w.heap.size + 1 + 1) (off := 0) rfl rfl (q05 hres) Try.underlying41 rfl (by kernel_rfl)) (.cons (.tmp rfl) (.cons (.tmp rfl) .nil))) rfl ?_
   refine ⟨⟨⟨r0, r1, r2, r3, ⟨mA, mem.length, mC⟩, ⟨sA, stack.length, sC⟩, pc⟩, ⟨some ⟨g, 0, none⟩, l.length, c2⟩, ⟨qA, qN, qC⟩, 0⟩, _, rfl, by rw [HO2.out], ?_, rfl, rfl, hbel⟩
   rw [HO2.out]
   exact hown
  | some j =>
   have hjl := hzl j rfl
   have hjL : j < LL.length := by have := HLN.out; omega
   have HO2 : Kept (OUT = (LL.take j, LL[j].pc)) := ⟨by rw [HO1.out]; simp only [List.getElem?_eq_getElem hjL]; rfl⟩
   have Y4 := fun j => cell_of_row wh (w.heap.size + 1) j _ _ _ X4
   have F4 := fun j => frozen_of_row wh (w.heap.size + 1) j _ _ X4
   simp only [Cnf.cs] at Y4
   obtain ⟨g', hge, -, -, hcel, -⟩ := HH.out.el hjL
   injection hge with hge
   injection hge with hge
   subst hge
   have c0 := hcel 0 (.int .i64 LL[j].pc) rfl
   rw [Nat.add_zero] at c0
   have hcut : ∀ w, (Instr.slice 39 (.slice (some ⟨g, 0, none⟩) l.length c2) none (some (.int .i64 (j : Int))) none).run Try.prog w = .ok (.slice (some ⟨g, 0, none⟩) j c2) w := fun w => cut_ent_run (some ⟨g, 0, none⟩) l.length c2 j (by omega) hc2 w
   have x6 := q03 (p := ⟨w.heap.size + 1, 7, none⟩) (u := .slice (some ⟨g, 0, none⟩) j c2) (q03 (p := ⟨w.heap.size + 1, 6, none⟩) (u := .int .i64 LL[j].pc) X6 (by simp)) (by simp)
   have h6 := OwnE.far (OwnE.far HH.out (p := ⟨w.heap.size + 1, 6, none⟩) (by show w.heap.size + 1 < _; omega) (.int .i64 LL[j].pc)) (p := ⟨w.heap.size + 1, 7, none⟩) (by show w.heap.size + 1 < _; omega) (.slice (some ⟨g, 0, none⟩) j c2)
   have h6t := OwnE.take (k := j) h6 HLN.out (by omega)
   have w6' := (WH.out.setCell (p := ⟨w.heap.size + 1, 6, none⟩) (by show w.heap.size ≤ w.heap.size + 1; omega) (.int .i64 LL[j].pc)).setCell (p := ⟨w.heap.size + 1, 7, none⟩) (by show w.heap.size ≤ w.heap.size + 1; omega) (.slice (some ⟨g, 0, none⟩) j c2)
   have x4 := heap_setCell_same _ (w.heap.size + 1) 7 _ _ (.slice (some ⟨g, 0, none⟩) j c2) (heap_setCell_same wh (w.heap.size + 1) 6 _ _ (.int .i64 LL[j].pc) X4)
   rw [show ((Cnf.cs ⟨⟨r0, r1, r2, r3, ⟨mA, mem.length, mC⟩, ⟨sA, stack.length, sC⟩, pc⟩, ⟨some ⟨g, 0, none⟩, l.length, c2⟩, ⟨qA, qN, qC⟩, 0⟩).toArray.setIfInBounds 6 (.int .i64 LL[j].pc)).setIfInBounds 7 (.slice (some ⟨g, 0, none⟩) j c2) = (Cnf.cs ⟨⟨r0, r1, r2, r3, ⟨mA, mem.length, mC⟩, ⟨sA, stack.length, sC⟩, LL[j].pc⟩, ⟨some ⟨g, 0, none⟩, j, c2⟩, ⟨qA, qN, qC⟩, 0⟩).toArray from rfl] at x4
   have sz : wh.heap.size ≤ ((wh.setCell ⟨w.heap.size + 1, 6, none⟩ (.int .i64 LL[j].pc)).setCell ⟨w.heap.size + 1, 7, none⟩ (.slice (some ⟨g, 0, none⟩) j c2)).heap.size := by simp [World.setCell]
   have HW0 := Kept.mk (show ((wh.setCell ⟨w.heap.size + 1, 6, none⟩ (.int .i64 LL[j].pc)).setCell ⟨w.heap.size + 1, 7, none⟩ (.slice (some ⟨g, 0, none⟩) j c2)) = ((wh.setCell ⟨w.heap.size + 1, 6, none⟩ (.int .i64 LL[j].pc)).setCell ⟨w.heap.size + 1, 7, none⟩ (.slice (some ⟨g, 0, none⟩) j c2)) from rfl)
   have K4 := Kept.mk x4
   have K6 := Kept.mk x6
   have HT6 := Kept.mk h6t
   have WT := Kept.mk w6'
   have Sz := Kept.mk sz
   clear X4 X6 hzl hcel x4 x6 h6 h6t w6' sz HW0 HO1
   go_upto_region 15 with (fail)
   generalize (wh.setCell ⟨w.heap.size + 1, 6, none⟩ (.int .i64 LL[j].pc)).setCell ⟨w.heap.size + 1, 7, none⟩ (.slice (some ⟨g, 0, none⟩) j c2) = wk at *
   have Y4 := fun q => cell_of_row wk (w.heap.size + 1) q _ _ _ K4.out
   have SK : wh.heap.size ≤ wk.heap.size := Sz.out
   have Y4a : ∀ ob q, (wk.alloc ob).cell? ⟨w.heap.size + 1, q, none⟩ = (Cnf.cs ⟨⟨r0, r1, r2, r3, ⟨mA, mem.length, mC⟩, ⟨sA, stack.length, sC⟩, LL[j].pc⟩, ⟨some ⟨g, 0, none⟩, j, c2⟩, ⟨qA, qN, qC⟩, 0⟩).toArray[q]? := fun ob q => ((q00 wk ob).cell (p := ⟨w.heap.size + 1, q, none⟩) (by show w.heap.size + 1 < _; omega)).trans (cell_of_row wk (w.heap.size + 1) q _ _ _ K4.out)
   have Y6 : ∀ ob q, (wk.alloc ob).cell? ⟨w.heap.size + 1 + 1, q, none⟩ = (Cnf.cs Cnf.zero).toArray[q]? := fun ob q => ((q00 wk ob).cell (p := ⟨w.heap.size + 1 + 1, q, none⟩) (by show w.heap.size + 1 + 1 < _; omega)).trans (cell_of_row wk (w.heap.size + 1 + 1) q _ _ _ K6.out)
   have F6 : ∀ ob q, (wk.alloc ob).frozen? ⟨w.heap.size + 1 + 1, q, none⟩ = false := fun ob q => ((q00 wk ob).frozen (p := ⟨w.heap.size + 1 + 1, q, none⟩) (by show w.heap.size + 1 + 1 < _; omega)).trans (frozen_of_row wk (w.heap.size + 1 + 1) q _ _ K6.out)
   simp only [Cnf.cs, Cnf.zero, Sl.none] at Y4 Y4a Y6
   have X9 := Kept.mk (q01 K6.out (q00 wk (.cells #[.int .i64 2, .int .i64 ad] 124)))
   have H9 := Kept.mk (HT6.out.past (q00 wk (.cells #[.int .i64 2, .int .i64 ad] 124)))
   have W9 := Kept.mk (WT.out.trans ((q00 wk (.cells #[.int .i64 2, .int .i64 ad] 124)).mono WT.out.size))
   go_wp2_with fail
   have hown := (own10 (g := w.heap.size + 1 + 1) ⟨⟨r0, r1, r2, r3, ⟨mA, mem.length, mC⟩, ⟨sA, stack.length, sC⟩, LL[j].pc⟩, ⟨some ⟨g, 0, none⟩, j, c2⟩, ⟨qA, qN, qC⟩, 0⟩ H9.out (by omega)).lower (show w.heap.size ≤ NB by omega)
   have hbel := below10 (g := w.heap.size + 1 + 1) ⟨⟨r0, r1, r2, r3, ⟨mA, mem.length, mC⟩, ⟨sA, stack.length, sC⟩, LL[j].pc⟩, ⟨some ⟨g, 0, none⟩, j, c2⟩, ⟨qA, qN, qC⟩, 0⟩ W9.out (by omega)
   have hres := q11 Cnf.zero ⟨⟨r0, r1, r2, r3, ⟨mA, mem.length, mC⟩, ⟨sA, stack.length, sC⟩, LL[j].pc⟩, ⟨some ⟨g, 0, none⟩, j, c2⟩, ⟨qA, qN, qC⟩, 0⟩ X9.out
   dsimp only at hown hbel hres
   refine q0C _ [Cnf.v ⟨⟨r0, r1, r2, r3, ⟨mA, mem.length, mC⟩, ⟨sA, stack.length, sC⟩, LL[j].pc⟩, ⟨some ⟨g, 0, none⟩, j, c2⟩, ⟨qA, qN, qC⟩, 0⟩, .slice (some ⟨wk.heap.size, 0, none⟩) 1 1, .bool true] Try.results71 (.cons (.cell (cs := Cnf.cs ⟨⟨r0, r1, r2, r3, ⟨mA, mem.length, mC⟩, ⟨sA, stack.length, sC⟩, LL[j].pc⟩, ⟨some ⟨g, 0, none⟩, j, c2⟩, ⟨qA, qN, qC⟩, 0⟩) (b := w.heap.size + 1 + 1) (off := 0) rfl rfl (q05 hres) Try.underlying41 rfl (by kernel_rfl)) (.cons (.tmp rfl) (.cons (.tmp rfl) .nil))) rfl ?_
   refine ⟨⟨⟨r0, r1, r2, r3, ⟨mA, mem.length, mC⟩, ⟨sA, stack.length, sC⟩, LL[j].pc⟩, ⟨some ⟨g, 0, none⟩, j, c2⟩, ⟨qA, qN, qC⟩, 0⟩, _, rfl, by rw [HO2.out], ?_, rfl, rfl, hbel⟩
   rw [HO2.out]
   exact hown
end
end Go.Proofs.Ytchldbkjapnlcaa
