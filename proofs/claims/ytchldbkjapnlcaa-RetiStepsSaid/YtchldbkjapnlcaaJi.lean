/- Programs of numbers, layer 6: a number's digit. Programs of numbers, layer 6: the regions that put a label, an instruction behind all. Programs of numbers, layer 6: what Make answers: regions of memory, places. -/
import Derived.Test.YtchldbkjapnlcaaJh
import Derived.LoopN
import Derived.Test.YtchldbkjapnlcaaJe
import Derived.Test.YtchldbkjapnlcaaJc
set_option linter.unusedVariables false
set_option linter.unusedSimpArgs false
namespace Go.Proofs.Ytchldbkjapnlcaa
open Go.RowKit
section
set_option maxRecDepth 100000 in
set_option maxHeartbeats 4000000 in
theorem digits_one (n : Int) (hn : 0 ≤ n ∧ n ≤ 5) (w : World) : Calls Try.prog 56 #[.int .i64 n] w fun en w' => ∃ s : ByteArray, s.size = 1 ∧ en = .returned (.string s) ∧ Below w.heap.size w w' := by
 have : n = 0 ∨ n = 1 ∨ n = 2 ∨ n = 3 ∨ n = 4 ∨ n = 5 := by omega
 rcases this with rfl | rfl | rfl | rfl | rfl | rfl
 ·have hap : ((⟨#[48]⟩ : ByteArray) ++ (⟨#[]⟩ : ByteArray)) = ⟨#[48]⟩ := by kernel_rfl
  have hem : (⟨#[48]⟩ : ByteArray).toList.isEmpty = false := by kernel_rfl
  have hst : (convert 66 9 (.slice (some ⟨w.heap.size, 0, none⟩) 1 1)).run Try.prog (w.alloc (.cells #[.int .u8 48] 5)) = .ok (.string ⟨#[48]⟩) (w.alloc (.cells #[.int .u8 48] 5)) := run_string (l := [48]) (q17 (q06 rfl) rfl) rfl
  go_enter Try.func56, Try.ntmps56
  go_wp2_with fail
  refine wp_loop_rounds 2 ?_
  rw [rounds_succ]
  go_wp2_with fail
  rw [rounds_succ]
  go_wp2_with fail
  go_ret
  exact ⟨⟨#[48]⟩, rfl, rfl, q00 w _⟩
 ·have hap : ((⟨#[49]⟩ : ByteArray) ++ (⟨#[]⟩ : ByteArray)) = ⟨#[49]⟩ := by kernel_rfl
  have hem : (⟨#[49]⟩ : ByteArray).toList.isEmpty = false := by kernel_rfl
  have hst : (convert 66 9 (.slice (some ⟨w.heap.size, 0, none⟩) 1 1)).run Try.prog (w.alloc (.cells #[.int .u8 49] 5)) = .ok (.string ⟨#[49]⟩) (w.alloc (.cells #[.int .u8 49] 5)) := run_string (l := [49]) (q17 (q06 rfl) rfl) rfl
  go_enter Try.func56, Try.ntmps56
  go_wp2_with fail
  refine wp_loop_rounds 2 ?_
  rw [rounds_succ]
  go_wp2_with fail
  rw [rounds_succ]
  go_wp2_with fail
  go_ret
  exact ⟨⟨#[49]⟩, rfl, rfl, q00 w _⟩
 ·have hap : ((⟨#[50]⟩ : ByteArray) ++ (⟨#[]⟩ : ByteArray)) = ⟨#[50]⟩ := by kernel_rfl
  have hem : (⟨#[50]⟩ : ByteArray).toList.isEmpty = false := by kernel_rfl
  have hst : (convert 66 9 (.slice (some ⟨w.heap.size, 0, none⟩) 1 1)).run Try.prog (w.alloc (.cells #[.int .u8 50] 5)) = .ok (.string ⟨#[50]⟩) (w.alloc (.cells #[.int .u8 50] 5)) := run_string (l := [50]) (q17 (q06 rfl) rfl) rfl
  go_enter Try.func56, Try.ntmps56
  go_wp2_with fail
  refine wp_loop_rounds 2 ?_
  rw [rounds_succ]
  go_wp2_with fail
  rw [rounds_succ]
  go_wp2_with fail
  go_ret
  exact ⟨⟨#[50]⟩, rfl, rfl, q00 w _⟩
 ·have hap : ((⟨#[51]⟩ : ByteArray) ++ (⟨#[]⟩ : ByteArray)) = ⟨#[51]⟩ := by kernel_rfl
  have hem : (⟨#[51]⟩ : ByteArray).toList.isEmpty = false := by kernel_rfl
  have hst : (convert 66 9 (.slice (some ⟨w.heap.size, 0, none⟩) 1 1)).run Try.prog (w.alloc (.cells #[.int .u8 51] 5)) = .ok (.string ⟨#[51]⟩) (w.alloc (.cells #[.int .u8 51] 5)) := run_string (l := [51]) (q17 (q06 rfl) rfl) rfl
  go_enter Try.func56, Try.ntmps56
  go_wp2_with fail
  refine wp_loop_rounds 2 ?_
  rw [rounds_succ]
  go_wp2_with fail
  rw [rounds_succ]
  go_wp2_with fail
  go_ret
  exact ⟨⟨#[51]⟩, rfl, rfl, q00 w _⟩
 ·have hap : ((⟨#[52]⟩ : ByteArray) ++ (⟨#[]⟩ : ByteArray)) = ⟨#[52]⟩ := by kernel_rfl
  have hem : (⟨#[52]⟩ : ByteArray).toList.isEmpty = false := by kernel_rfl
  have hst : (convert 66 9 (.slice (some ⟨w.heap.size, 0, none⟩) 1 1)).run Try.prog (w.alloc (.cells #[.int .u8 52] 5)) = .ok (.string ⟨#[52]⟩) (w.alloc (.cells #[.int .u8 52] 5)) := run_string (l := [52]) (q17 (q06 rfl) rfl) rfl
  go_enter Try.func56, Try.ntmps56
  go_wp2_with fail
  refine wp_loop_rounds 2 ?_
  rw [rounds_succ]
  go_wp2_with fail
  rw [rounds_succ]
  go_wp2_with fail
  go_ret
  exact ⟨⟨#[52]⟩, rfl, rfl, q00 w _⟩
 ·have hap : ((⟨#[53]⟩ : ByteArray) ++ (⟨#[]⟩ : ByteArray)) = ⟨#[53]⟩ := by kernel_rfl
  have hem : (⟨#[53]⟩ : ByteArray).toList.isEmpty = false := by kernel_rfl
  have hst : (convert 66 9 (.slice (some ⟨w.heap.size, 0, none⟩) 1 1)).run Try.prog (w.alloc (.cells #[.int .u8 53] 5)) = .ok (.string ⟨#[53]⟩) (w.alloc (.cells #[.int .u8 53] 5)) := run_string (l := [53]) (q17 (q06 rfl) rfl) rfl
  go_enter Try.func56, Try.ntmps56
  go_wp2_with fail
  refine wp_loop_rounds 2 ?_
  rw [rounds_succ]
  go_wp2_with fail
  rw [rounds_succ]
  go_wp2_with fail
  go_ret
  exact ⟨⟨#[53]⟩, rfl, rfl, q00 w _⟩
end
section
noncomputable def regM (id : Nat) : Code := (Try.f23.body.bind (findRegion id)).getD .skip
theorem exec_stradd {P : Program} {w : World} {o : Oper} {ev : Operand → Value} {t t' : TypeId} {x y : Operand} {a b : ByteArray} (ho : o.op = .binOp .add t x y t') (hx : ev x = .string a) (hy : ev y = .string b) (h : a.size + b.size ≤ 9223372036854775807) :
  (execOp ev o).run P w = .ok (.value (.string (a ++ b))) w := by
 unfold execOp
 simp [ho, hx, hy, binOp, run_string_add_sum (P := P) w a b h, eqGuard]
theorem info_label : (Try.prog.info? 101).map (fun i => (i.zero, i.size, i.bytes)) = some (some (.agg #[.string ⟨#[]⟩, .int .i64 0]), 2, 24) := by kernel_rfl
theorem info_ins : (Try.prog.info? 53).map (fun i => (i.zero, i.size, i.bytes)) = some (some (.agg #[.int .i64 0, .int .i64 0, .int .i64 0, .bool false, .int .i64 0, .bool false, .int .i64 0, .string ⟨#[]⟩, .int .i64 0]), 9, 80) := by kernel_rfl
theorem own_sl {w : World} {B : Nat} {e : TypeId} {size : Nat} {v : Value} {n : Nat} {xs : List Value} (h : w.ownsRow B e size v n xs) : ∃ s : Sl, v = .slice s.A s.n s.c := by
 obtain ⟨A, c, rfl, _, _⟩ := q2F h
 exact ⟨⟨A, n, c⟩, rfl⟩
theorem own_other {w w' : World} {B B' : Nat} {e e' : TypeId} {size size' : Nat} {v v' : Value} {n n' : Nat} {xs xs' : List Value} (h : w.ownsRow B e size v n xs) (h' : w.ownsRow B' e' size' v' n' xs') (hg : w.grownBy w' v'.ownBlock) (hne : e ≠ e') : w'.ownsRow B e size v n xs := by
 refine World.ownsRow.kept h hg ?_
 rcases h.2 with ⟨rfl, _⟩ | ⟨g, cap, cur, rfl, _, hh, _⟩
 ·exact .inl rfl
 ·refine .inr ?_
  rcases h'.2 with ⟨rfl, _⟩ | ⟨g', cap', cur', rfl, _, hh', _⟩
  ·intro e; cases e
  ·intro e
   injection e with e
   subst e
   rw [hh] at hh'
   injection hh' with hh'
   injection hh' with _ hh'
   exact hne hh'
theorem own_grown {w w' : World} {B g : Nat} {e : TypeId} {size : Nat} {v : Value} {n : Nat} {xs : List Value} (h : w.ownsRow B e size v n xs) (hg : w.grownBy w' (some g)) (hlt : g < B) : w'.ownsRow B e size v n xs :=
 World.ownsRow.kept h hg (by
  cases hv : v.ownBlock with
  | none => exact .inl rfl
  | some k => exact .inr (fun e => by injection e with e; have := (World.ownsRow.lt h k hv).1; omega))
def OwnN (w : World) (B : Nat) (v : Value) (n : Nat) (N : Int) : Prop := ∃ il : List Inst, il.length = n ∧ (∀ e ∈ il, InsOk e N) ∧ w.ownsRow B 53 9 v n (instCs il)
theorem OwnN.past {w w' : World} {B : Nat} {v : Value} {n : Nat} {N : Int} (h : OwnN w B v n N) (hb : Below w.heap.size w w') : OwnN w' B v n N := by
 obtain ⟨il, h1, h2, h3⟩ := h
 exact ⟨il, h1, h2, own_past h3 hb⟩
theorem OwnN.more {w : World} {B : Nat} {v : Value} {n : Nat} {N : Int} {il : List Inst} {e : Inst} (h1 : il.length = n) (h2 : ∀ e ∈ il, InsOk e N) (he : InsOk e N) (h : w.ownsRow B 53 9 v (n + 1) (instCs il ++ e.cs)) : OwnN w B v (n + 1) N :=
 ⟨il ++ [e], by simp [h1], fun x hx => by
  rcases List.mem_append.1 hx with hx | hx
  ·exact h2 x hx
  ·rw [List.mem_singleton] at hx; rw [hx]; exact he, by simpa [instCs] using h⟩
structure BZ (w0 : World) (g4 B : Nat) (cf : Value → List Value) (R0 : World → Prop) (v0 : Value) (ap st : Nat) (done : Nat → Bool) (vals : Nat → Value) (w : World) : Prop where
 b : Below g4 w0 w
 s : B ≤ w.heap.size
 k : ∀ (v : Value) (n : Nat) (xs : List Value), w0.ownsRow B 49 3 v n xs → w.ownsRow B 49 3 v n xs
 x : w.heap[g4]? = some (.cells (cf (if done st = true then vals ap else v0)).toArray 33 (0, 0))
 r : done ap = false → R0 w
 q : done ap = true → ∃ s : Sl, vals ap = .slice s.A s.n s.c
section
variable {w0 w w' : World} {g4 B : Nat} {cf : Value → List Value} {R0 : World → Prop} {v0 : Value} {ap st : Nat} {done : Nat → Bool} {vals : Nat → Value}
theorem BZ.start {q : Prg} (hx : w0.heap[g4]? = some (.cells q.cs.toArray 33 (0, 0))) (hr : R0 w0) (hB : B ≤ w0.heap.size) (_ : ∀ _ _ : Nat, ∃ s : Sl, v0 = .slice s.A s.n s.c) (hcf : cf v0 = q.cs := by rfl) (hd : ∀ w, R0 w → R0 w.drew := by exact fun _ h => h) : BZ w0 g4 B cf R0 v0 ap st (fun _ => false) (fun _ => undef) w0.drew := by
 refine ⟨(Below.refl _ _).drew, hB, fun _ _ _ h => h, ?_, fun _ => hd _ hr, fun h => by cases h⟩
 rw [if_neg (by simp), hcf]
 exact hx
theorem BZ.other {i : Nat} {v : Value} (h : BZ w0 g4 B cf R0 v0 ap st done vals w) (ha : ¬ ap = i) (hs : ¬ st = i) (hb : Below w.heap.size w w') (hr : R0 w → R0 w') : BZ w0 g4 B cf R0 v0 ap st (fun j => done j || j == i) (fun j => if j = i then v else vals j) w' := by
 have e : ∀ k, ¬ k = i → (done k || k == i) = done k := fun k hk => by rw [show (k == i) = false by simpa using hk, Bool.or_false]
 refine ⟨h.b.trans (hb.mono (Nat.le_of_lt (Array.getElem?_eq_some_iff.1 h.x).1)), Nat.le_trans h.s hb.size, fun v n xs hv => own_past (h.k v n xs hv) hb, ?_, fun hd => hr (h.r (by rw [← e ap ha]; exact hd)), fun hd => ?_⟩
 ·simp only [e st hs, if_neg ha]
  exact q01 h.x hb
 ·simp only [if_neg ha]
  exact h.q (by rw [← e ap ha]; exact hd)
theorem BZ.app {v : Value} {e : TypeId} {size n : Nat} {xs : List Value} (h : BZ w0 g4 B cf R0 v0 ap st done vals w) (hst : done st = false) (ho : w.ownsRow B e size v0 n xs) (hg : w.grownBy w' v0.ownBlock) (hv : ∃ s : Sl, v = .slice s.A s.n s.c) (hne : 49 ≠ e) (h4 : g4 < B) (hsa : st ≠ ap := by decide) : BZ w0 g4 B cf R0 v0 ap st (fun j => done j || j == ap) (fun j => if j = ap then v else vals j) w' := by
 have es : (done st || st == ap) = false := by rw [hst, Bool.false_or]; simpa using hsa
 refine ⟨h.b.grown hg (Nat.le_of_lt (Array.getElem?_eq_some_iff.1 h.x).1) (fun k hk => by have := (World.ownsRow.lt ho k hk).1; omega), Nat.le_trans h.s hg.size, fun v n xs hv => own_other (h.k v n xs hv) ho hg hne, ?_, fun hd => ?_, fun _ => ?_⟩
 ·have hx := h.x
  rw [hst, if_neg (by simp)] at hx
  rw [es, if_neg (by simp)]
  exact (hg.block g4 (Array.getElem?_eq_some_iff.1 hx).1 (fun e => by have := (World.ownsRow.lt ho g4 e.symm).1; omega)).trans hx
 ·have hd : (done ap || ap == ap) = false := hd
  simp at hd
 ·simp only [if_true]
  exact hv
theorem BZ.store {F : Nat} (h : BZ w0 g4 B cf R0 v0 ap st done vals w) (hap : done ap = true) (hst : done st = false) (hcf : ∀ a b, (cf a).toArray.setIfInBounds F b = (cf b).toArray) (h4 : g4 < B) (hsa : ap ≠ st := by decide) :
  BZ w0 g4 B cf R0 v0 ap st (fun j => done j || j == st) (fun j => if j = st then undef else vals j) (w.setCell ⟨g4, F, none⟩ (vals ap)) := by
 have ea : (done ap || ap == st) = true := by rw [hap, Bool.true_or]
 refine ⟨h.b.setCell (Nat.le_refl _) _, by simpa [World.setCell] using h.s, fun v n xs hv => own_far (h.k v n xs hv) h4 _, ?_, fun hd => ?_, fun _ => ?_⟩
 ·rw [show (done st || st == st) = true by simp, if_pos rfl, if_neg hsa]
  have hx := h.x
  rw [hst, if_neg (by simp)] at hx
  rw [heap_setCell_same w g4 F _ _ _ hx, hcf]
 ·have hd : (done ap || ap == st) = false := hd
  rw [ea] at hd
  cases hd
 ·simp only [if_neg hsa]
  exact h.q hap
end
set_option maxRecDepth 100000 in
set_option maxHeartbeats 8000000 in
theorem make_label {z0 z1 z2 z3 z5 z6 z7 z8 z10 z11 z12 z13 z14 z15 z16 z17 z18 z19 z20 z21 z22 z23 z24 z25 z26 z27 z28 z29 z30 z31 z32 z33 z34 z35 z36 z37 z38 z39 z40 z41 z42 z43 z44 z45 z46 z47 z48 z49 z50 z51 z52 z53 z54 z55 z56 z57 z58 z59 z60 z61 z62 z63 z64 z65 z66 z67 z68 z69 z70 z71 z72 z73 z74 z75 z76 z77 z78 z79 z80 z81 z82 z83 z84 z85 z86 z87 z88 z89 z90 z91 z92 z93 z94 z95 z96 z97 z98 z99 z100 z101 z102 z103 z104 z105 z106 z107 z108 z109 z110 z111 z112 z113 z114 z115 z116 z117 z118 z119 z120 z121 z122 z123 z124 z125 z126 z127 z128 z129 z130 z131 z132 z133 z134 z135 z136 z137 z138 z139 z140 z141 z142 z143 z144 z145 z146 z147 z148 z149 z150 z151 z152 z153 z154 z155 z156 z157 z158 z159 z160 z161 z162 z163 z164 z165 z166 z167 z168 z169 z170 : Value} (w0 : World) (g4 B : Nat) (q : Prg) (nl : Nat) (i : Int) (hi : 0 ≤ i ∧ i ≤ 5) (hnl : nl ≤ 1000) (X4 : Kept (w0.heap[g4]? = some (.cells q.cs.toArray 33 (0, 0)))) (h4 : g4 < B) (hB0 : B ≤ w0.heap.size) (HL : Kept (∃ xs : List Value, w0.ownsRow B 101 2 q.labels nl xs)) (HS : Kept (∃ s : Sl, q.labels = .slice s.A s.n s.c)) (Q : Exit → Act → World → Prop)
  (hQ : ∀ (u144 u145 u146 u147 u148 u149 u150 u151 u152 u153 : Value) (w' : World) (s : Sl), (∃ xs : List Value, w'.ownsRow B 101 2 (.slice s.A s.n s.c) (nl + 1) xs) → w'.heap[g4]? = some (.cells ((fun v => Prg.cs { q with labels := v }) (.slice s.A s.n s.c)).toArray 33 (0, 0)) → (∀ (v : Value) (n : Nat) (xs : List Value), w0.ownsRow B 49 3 v n xs → w'.ownsRow B 49 3 v n xs) → Below g4 w0 w' → B ≤ w'.heap.size → Q .normal ⟨#[z0, z1, z2, z3, .pointer (some ⟨g4, 0, none⟩), z5, z6, z7, z8, .int .i64 i, z10, z11, z12, z13, z14, z15, z16, z17, z18, z19, z20, z21, z22, z23, z24, z25, z26, z27, z28, z29, z30, z31, z32, z33, z34, z35, z36, z37, z38, z39, z40, z41, z42, z43, z44, z45, z46, z47, z48, z49, z50, z51, z52, z53, z54, z55, z56, z57, z58, z59, z60, z61, z62, z63, z64, z65, z66, z67, z68, z69, z70, z71, z72, z73, z74, z75, z76, z77, z78, z79, z80, z81, z82, z83, z84, z85, z86, z87, z88, z89, z90, z91, z92, z93, z94, z95, z96, z97, z98, z99, z100, z101, z102, z103, z104, z105, z106, z107, z108, z109, z110, z111, z112, z113, z114, z115, z116, z117, z118, z119, z120, z121, z122, z123, z124, z125, z126, z127, z128, z129, z130, z131, z132, z133, z134, z135, z136, z137, z138, z139, z140, z141, z142, z143, u144, u145, u146, u147, u148, u149, u150, u151, u152, u153, z154, z155, z156, z157, z158, z159, z160, z161, z162, z163, z164, z165, z166, z167, z168, z169, z170], []⟩ w') :
  Code.wp Try.prog (regM 23) Q ⟨#[z0, z1, z2, z3, .pointer (some ⟨g4, 0, none⟩), z5, z6, z7, z8, .int .i64 i, z10, z11, z12, z13, z14, z15, z16, z17, z18, z19, z20, z21, z22, z23, z24, z25, z26, z27, z28, z29, z30, z31, z32, z33, z34, z35, z36, z37, z38, z39, z40, z41, z42, z43, z44, z45, z46, z47, z48, z49, z50, z51, z52, z53, z54, z55, z56, z57, z58, z59, z60, z61, z62, z63, z64, z65, z66, z67, z68, z69, z70, z71, z72, z73, z74, z75, z76, z77, z78, z79, z80, z81, z82, z83, z84, z85, z86, z87, z88, z89, z90, z91, z92, z93, z94, z95, z96, z97, z98, z99, z100, z101, z102, z103, z104, z105, z106, z107, z108, z109, z110, z111, z112, z113, z114, z115, z116, z117, z118, z119, z120, z121, z122, z123, z124, z125, z126, z127, z128, z129, z130, z131, z132, z133, z134, z135, z136, z137, z138, z139, z140, z141, z142, z143, z144, z145, z146, z147, z148, z149, z150, z151, z152, z153, z154, z155, z156, z157, z158, z159, z160, z161, z162, z163, z164, z165, z166, z167, z168, z169, z170], []⟩ w0 := by
 conv => arg 2; whnf
 refine q19 (fun done vals w => BZ w0 g4 B (fun v => Prg.cs { q with labels := v }) (fun w => ∃ xs : List Value, w.ownsRow B 101 2 q.labels nl xs) q.labels 8 10 done vals w) (g4) (G := fun _ => True) (ts := [
   .is (Value.pointer (some ⟨g4, 8, none⟩)),
   .is q.labels,
   .is (Value.int .i64 (i)),
   .makes (fun v _ => ∃ s : ByteArray, v = .string s ∧ s.size = 1),
   .gets (fun v _ => ∃ s : ByteArray, v = .string s),
   .is (Value.int .i64 (i)),
   .gets (fun v _ => ∃ s : ByteArray, v = .agg #[.string s, .int .i64 i]),
   .makes (fun v w => ∃ (g : Nat) (s : ByteArray), v = .slice (some ⟨g, 0, none⟩) 1 1 ∧ w.heap[g]? = some (.cells #[.string s, .int .i64 i] 101 (0, 0))),
   .turns (fun v w => ∃ xs : List Value, w.ownsRow B 101 2 v (nl + 1) xs) (fun _ _ => True),
   .is (Value.pointer (some ⟨g4, 8, none⟩)),
   .sets (fun w w' => w.grownBy w' (some g4))])
  (fin := [8]) (cs := [(10, 8), (8, 3), (8, 4), (8, 6), (8, 10), (10, 3), (10, 4), (10, 6)]) ?z0 ?zg (by kernel_rfl) rfl (by kernel_rfl) (by kernel_rfl)
  ⟨trivial, trivial, trivial, q07 _, q07 _, trivial, q07 _, (fun _ _ _ ⟨g, s, h1, h2⟩ hb => ⟨g, s, h1, q01 h2 hb⟩), (fun _ _ _ ⟨xs, h⟩ hb => ⟨xs, own_past h hb⟩), trivial, (fun _ _ _ _ _ => trivial), trivial⟩ (fun _ _ _ _ => trivial) ?cs (by omega) trivial
  ⟨?_, ?_, ?_, ?_, ?_, ?_, ?_, ?_, ?_, ?_, ?_, trivial⟩ ?_
 case z0 =>
  show _
  exact BZ.start X4.out HL.out hB0 (fun _ _ => HS.out)
 case zg =>
  intro i done vals w1 w2 v hti hni hZ hb
  have hz := hZ
  ·skip
   have hz : BZ w0 g4 B (fun v => Prg.cs { q with labels := v }) (fun w => ∃ xs : List Value, w.ownsRow B 101 2 q.labels nl xs) q.labels 8 10 done vals w1 := hz
   have ha : ¬ 8 = i := by rintro rfl; cases hti
   have hs : ¬ 10 = i := by rintro rfl; cases hti
   exact hz.other ha hs hb (fun h => by obtain ⟨xs, h⟩ := h; exact ⟨xs, own_past h hb⟩)
 case cs =>
  intro p hp v w1 w2 hG hR hE
  simp only [List.mem_cons, List.not_mem_nil, or_false] at hp
  rcases hp with rfl | rfl | rfl | rfl | rfl | rfl | rfl | rfl
  ·exact by obtain ⟨xs, h⟩ := hR; exact ⟨xs, own_grown h hE h4⟩
  ·exact hR
  ·exact hR
  ·exact hR
  ·exact hR
  ·exact hR
  ·exact hR
  ·exact hR
 ·intro done vals w1 hB _ hZ hni hcl hdn _
  refine q02 rfl ?_ ⟨q04 rfl, noturn rfl⟩
  kernel_rfl
 ·intro done vals w1 hB _ hZ hni hcl hdn _
  have hz : BZ w0 g4 B (fun v => Prg.cs { q with labels := v }) (fun w => ∃ xs : List Value, w.ownsRow B 101 2 q.labels nl xs) q.labels 8 10 done vals w1 := hZ
  have h9 := hcl 10 _ rfl (by kernel_rfl)
  have hx := hz.x
  rw [if_neg (by rw [h9]; simp)] at hx
  refine q02 rfl ?_ ⟨q04 rfl, noturn rfl⟩
  exact q0A rfl (by kernel_rfl) (CellsAt.of_block hx 8 _ rfl) Try.underlying30 rfl
 ·intro done vals w1 hB _ hZ hni hcl hdn _
  refine q02 rfl ?_ ⟨q04 rfl, noturn rfl⟩
  kernel_rfl
 ·intro done vals w1 hB _ hZ hni hcl hdn _
  refine q12 (f := 56) (args := #[.int .i64 i]) (w1 := w1) rfl (by kernel_rfl) ?_
  refine (digits_one i hi w1).mono ?_
  rintro e1 w2 ⟨s, hs, rfl, h2⟩
  exact ⟨_, rfl, q21 rfl ⟨s, rfl, hs⟩ h2, noturn rfl⟩
 ·intro done vals w1 hB _ hZ hni hcl hdn hd
  obtain ⟨s, e3, hs⟩ : ∃ s : ByteArray, vals 3 = .string s ∧ s.size = 1 := hd 3 (by kernel_rfl)
  clear hd
  refine q02 (v := .string (⟨#[108]⟩ ++ s)) rfl ?_ ⟨q0B rfl ⟨_, rfl⟩, noturn rfl⟩
  rw [q0D e3]
  exact exec_stradd (a := ⟨#[108]⟩) (b := s) rfl (by kernel_rfl) (by kernel_rfl) (by rw [hs]; simp [ByteArray.size])
 ·intro done vals w1 hB _ hZ hni hcl hdn _
  refine q02 rfl ?_ ⟨q04 rfl, noturn rfl⟩
  kernel_rfl
 ·intro done vals w1 hB _ hZ hni hcl hdn hd
  obtain ⟨s, e4⟩ : ∃ s : ByteArray, vals 4 = .string s := hd 4 (by kernel_rfl)
  clear hd
  refine q02 (v := .agg #[.string s, .int .i64 i]) rfl ?_ ⟨q0B rfl ⟨_, rfl⟩, noturn rfl⟩
  rw [q0D e4]
  kernel_rfl
 ·intro done vals w1 hB _ hZ hni hcl hdn hd
  obtain ⟨s, e6⟩ : ∃ s : ByteArray, vals 6 = .agg #[.string s, .int .i64 i] := hd 6 (by kernel_rfl)
  clear hd
  exact q1D (v := .slice (some ⟨w1.heap.size, 0, none⟩) 1 1) (w' := w1.alloc (.cells #[.string s, .int .i64 i] 101)) rfl (by rw [q0D e6]; kernel_rfl) ⟨q21 rfl ⟨w1.heap.size, s, rfl, heap_alloc_new w1 _⟩ (q00 _ _), noturn rfl⟩
 ·intro done vals w1 hB _ hZ hni hcl hdn hd
  obtain ⟨g, s, e7, hh⟩ : ∃ (g : Nat) (s : ByteArray), vals 7 = .slice (some ⟨g, 0, none⟩) 1 1 ∧ w1.heap[g]? = some (.cells #[.string s, .int .i64 i] 101 (0, 0)) := hd 7 (by kernel_rfl)
  clear hd
  have hz : BZ w0 g4 B (fun v => Prg.cs { q with labels := v }) (fun w => ∃ xs : List Value, w.ownsRow B 101 2 q.labels nl xs) q.labels 8 10 done vals w1 := hZ
  have h9 := hcl 10 _ rfl (by kernel_rfl)
  obtain ⟨xs, hown⟩ := hz.r hni
  refine q36 rfl (.tmp 145) (.tmp 151) _ rfl B _ _ 2 24 Try.underlying30 info_label rfl (by omega) (v := q.labels) (by kernel_rfl) hown (A := some ⟨g, 0, none⟩) (m := 1) (c := 1) ?_ (q17 (cs := [.string s, .int .i64 i]) hh rfl) (by simp [Value.oneCell']) (by simp only [maxLen]; omega) (by omega) hz.s ?_
  ·rw [q0D e7]
   kernel_rfl
  intro v2 w2 h1 h2 h3
  refine ⟨q16 rfl ⟨_, h1⟩ (hB.grown h2 (by have := hz.s; omega) (fun k hk => by have := (World.ownsRow.lt hown k hk).1; omega)) trivial h2.size trivial, fun _ => hz.app h9 hown h2 (own_sl h1) (by decide) h4⟩
 ·intro done vals w1 hB _ hZ hni hcl hdn _
  refine q02 rfl ?_ ⟨q04 rfl, noturn rfl⟩
  kernel_rfl
 ·intro done vals w1 hB _ hZ hni hcl hdn _
  have hz : BZ w0 g4 B (fun v => Prg.cs { q with labels := v }) (fun w => ∃ xs : List Value, w.ownsRow B 101 2 q.labels nl xs) q.labels 8 10 done vals w1 := hZ
  have hj := hdn 8 (by kernel_rfl)
  have hst := q08 w1 ⟨g4, 8, none⟩ (vals 8)
  refine q14 (w' := w1.setCell ⟨g4, 8, none⟩ (vals 8)) rfl ?_ ⟨q15 rfl (hB.setCell (Nat.le_refl _) _) trivial hst.size hst, fun _ => hz.store hj hni (fun _ _ => rfl) h4⟩
  obtain ⟨s, es⟩ := hz.q hj
  rw [q0D es]
  exact q13 rfl (by kernel_rfl) (by kernel_rfl) (q22 (CellsAt.of_block hz.x 8 _ rfl) (frozen_of_row w1 g4 8 _ _ hz.x) (by kernel_rfl))
 intro done vals w9 b9 _ hall hZ hr
 have hz : BZ w0 g4 B (fun v => Prg.cs { q with labels := v }) (fun w => ∃ xs : List Value, w.ownsRow B 101 2 q.labels nl xs) q.labels 8 10 done vals w9 := hZ
 have hap := hr 8 (by simp) (by simp)
 have hx := hz.x
 rw [if_pos (hall 10 (by simp))] at hx
 obtain ⟨s, es⟩ := hz.q (hall 8 (by simp))
 simp only [fillT, Tell.is, Tell.makes, Tell.gets, Tell.turns, Act.put, List.setIfInBounds_toArray, List.set_cons_zero, List.set_cons_succ]
 rw [es] at hx hap
 exact hQ _ _ _ _ _ _ _ _ _ _ w9 s hap hx hz.k hz.b hz.s
set_option maxRecDepth 100000 in
set_option maxHeartbeats 8000000 in
theorem make_ins {z0 z1 z2 z5 z6 z7 z9 z11 z12 z13 z14 z15 z16 z17 z18 z19 z20 z21 z22 z23 z24 z25 z26 z27 z28 z29 z30 z31 z32 z33 z34 z35 z36 z37 z38 z39 z40 z41 z42 z43 z44 z45 z46 z47 z48 z49 z50 z51 z52 z53 z54 z55 z56 z57 z58 z59 z60 z61 z62 z63 z64 z65 z66 z67 z68 z69 z70 z71 z72 z73 z74 z75 z76 z77 z78 z79 z80 z81 z82 z83 z84 z85 z86 z87 z88 z89 z90 z91 z92 z93 z94 z95 z96 z97 z98 z99 z100 z101 z102 z103 z104 z105 z106 z107 z108 z109 z110 z111 z112 z113 z114 z115 z116 z117 z118 z119 z120 z121 z122 z123 z124 z125 z126 z127 z128 z129 z130 z131 z132 z133 z134 z135 z136 z137 z138 z139 z140 z141 z142 z143 z144 z145 z146 z147 z148 z149 z150 z151 z152 z153 z154 z155 z156 z157 z158 z159 z160 z161 z162 z163 z164 z165 z166 z167 z168 z169 z170 : Value} (w0 : World) (g4 B : Nat) (q : Prg) (b1 : Nat) (AL : Option Addr) (l : List Int) (cL : Nat) (nl i : Nat) (N : Int) (hi : i ≤ 50) (hN : 1 ≤ N ∧ N ≤ 100) (hnl : nl ≤ 1000) (h14 : b1 < g4) (HX1 : Kept (w0.cell? ⟨b1, 0, none⟩ = some (.slice AL l.length cL))) (HRL : Kept (∀ w1, Below g4 w0 w1 → RdI w1 AL l)) (X4 : Kept (w0.heap[g4]? = some (.cells q.cs.toArray 33 (0, 0)))) (h4 : g4 < B) (hB0 : B ≤ w0.heap.size) (HL : Kept (OwnN w0 B (.slice q.A q.n q.c) nl N)) (HS : Kept (∃ s : Sl, (Value.slice q.A q.n q.c) = .slice s.A s.n s.c)) (Q : Exit → Act → World → Prop)
  (hQ : ∀ (u159 u160 u161 u162 u163 u164 u165 u166 u167 u168 u169 : Value) (w' : World) (s : Sl), OwnN w' B (.slice s.A s.n s.c) (nl + 1) N → w'.heap[g4]? = some (.cells ((fun v => [.int .i64 q.W, .int .i64 q.window, .int .i64 q.fuel, .int .i64 q.r0, .int .i64 q.r1, .int .i64 q.r2, .int .i64 q.r3, q.mems, q.labels, v]) (.slice s.A s.n s.c)).toArray 33 (0, 0)) → (∀ (v : Value) (n : Nat) (xs : List Value), w0.ownsRow B 49 3 v n xs → w'.ownsRow B 49 3 v n xs) → Below g4 w0 w' → B ≤ w'.heap.size → Q .normal ⟨#[z0, z1, z2, .func (Fn.func 55) #[] #[.pointer (some ⟨b1, 0, none⟩)], .pointer (some ⟨g4, 0, none⟩), z5, z6, z7, .int .i64 N, z9, .int .i64 (i : Int), z11, z12, z13, z14, z15, z16, z17, z18, z19, z20, z21, z22, z23, z24, z25, z26, z27, z28, z29, z30, z31, z32, z33, z34, z35, z36, z37, z38, z39, z40, z41, z42, z43, z44, z45, z46, z47, z48, z49, z50, z51, z52, z53, z54, z55, z56, z57, z58, z59, z60, z61, z62, z63, z64, z65, z66, z67, z68, z69, z70, z71, z72, z73, z74, z75, z76, z77, z78, z79, z80, z81, z82, z83, z84, z85, z86, z87, z88, z89, z90, z91, z92, z93, z94, z95, z96, z97, z98, z99, z100, z101, z102, z103, z104, z105, z106, z107, z108, z109, z110, z111, z112, z113, z114, z115, z116, z117, z118, z119, z120, z121, z122, z123, z124, z125, z126, z127, z128, z129, z130, z131, z132, z133, z134, z135, z136, z137, z138, z139, z140, z141, z142, z143, z144, z145, z146, z147, z148, z149, z150, z151, z152, z153, z154, z155, z156, z157, z158, u159, u160, u161, u162, u163, u164, u165, u166, u167, u168, u169, z170], []⟩ w') :
  Code.wp Try.prog (regM 27) Q ⟨#[z0, z1, z2, .func (Fn.func 55) #[] #[.pointer (some ⟨b1, 0, none⟩)], .pointer (some ⟨g4, 0, none⟩), z5, z6, z7, .int .i64 N, z9, .int .i64 (i : Int), z11, z12, z13, z14, z15, z16, z17, z18, z19, z20, z21, z22, z23, z24, z25, z26, z27, z28, z29, z30, z31, z32, z33, z34, z35, z36, z37, z38, z39, z40, z41, z42, z43, z44, z45, z46, z47, z48, z49, z50, z51, z52, z53, z54, z55, z56, z57, z58, z59, z60, z61, z62, z63, z64, z65, z66, z67, z68, z69, z70, z71, z72, z73, z74, z75, z76, z77, z78, z79, z80, z81, z82, z83, z84, z85, z86, z87, z88, z89, z90, z91, z92, z93, z94, z95, z96, z97, z98, z99, z100, z101, z102, z103, z104, z105, z106, z107, z108, z109, z110, z111, z112, z113, z114, z115, z116, z117, z118, z119, z120, z121, z122, z123, z124, z125, z126, z127, z128, z129, z130, z131, z132, z133, z134, z135, z136, z137, z138, z139, z140, z141, z142, z143, z144, z145, z146, z147, z148, z149, z150, z151, z152, z153, z154, z155, z156, z157, z158, z159, z160, z161, z162, z163, z164, z165, z166, z167, z168, z169, z170], []⟩ w0 := by
 conv => arg 2; whnf
 refine q19 (fun done vals w => BZ w0 g4 B (fun v => [.int .i64 q.W, .int .i64 q.window, .int .i64 q.fuel, .int .i64 q.r0, .int .i64 q.r1, .int .i64 q.r2, .int .i64 q.r3, q.mems, q.labels, v]) (fun w => OwnN w B (.slice q.A q.n q.c) nl N) (Value.slice q.A q.n q.c) 9 11 done vals w) (g4) (G := fun _ => True) (ts := [
   .is (Value.pointer (some ⟨g4, 9, none⟩)),
   .is (.slice q.A q.n q.c),
   .is (Value.func (Fn.func 55) #[] #[.pointer (some ⟨b1, 0, none⟩)]),
   .is (Value.int .i64 ((i : Int))),
   .is (Value.int .i64 (((i : Int)) + (2))),
   .draws (.int .i64 (kOf l ((i : Int) + 2))),
   .is (Value.int .i64 (N)),
   .makes (fun v _ => ∃ e : Inst, v = e.v ∧ InsOk e N),
   .makes (fun v w => ∃ (g : Nat) (e : Inst), v = .slice (some ⟨g, 0, none⟩) 1 1 ∧ InsOk e N ∧ w.heap[g]? = some (.cells e.cs.toArray 53 (0, 0))),
   .turns (fun v w => OwnN w B v (nl + 1) N) (fun _ _ => True),
   .is (Value.pointer (some ⟨g4, 9, none⟩)),
   .sets (fun w w' => w.grownBy w' (some g4))])
  (fin := [9]) (cs := [(11, 9), (9, 7), (9, 11), (11, 7)]) ?z0 ?zg (by kernel_rfl) rfl (by kernel_rfl) (by kernel_rfl)
  ⟨trivial, trivial, trivial, trivial, trivial, trivial, trivial, q07 _, (fun _ _ _ ⟨g, e, h1, h3, h2⟩ hb => ⟨g, e, h1, h3, q01 h2 hb⟩), (fun _ _ _ h hb => h.past hb), trivial, (fun _ _ _ _ _ => trivial), trivial⟩ (fun _ _ _ _ => trivial) ?cs (by omega) trivial
  ⟨?_, ?_, ?_, ?_, ?_, ?_, ?_, ?_, ?_, ?_, ?_, ?_, trivial⟩ ?_
 case z0 =>
  show _
  exact BZ.start X4.out HL.out hB0 (fun _ _ => HS.out)
 case zg =>
  intro i done vals w1 w2 v hti hni hZ hb
  have hz := hZ
  ·skip
   have hz : BZ w0 g4 B (fun v => [.int .i64 q.W, .int .i64 q.window, .int .i64 q.fuel, .int .i64 q.r0, .int .i64 q.r1, .int .i64 q.r2, .int .i64 q.r3, q.mems, q.labels, v]) (fun w => OwnN w B (.slice q.A q.n q.c) nl N) (Value.slice q.A q.n q.c) 9 11 done vals w1 := hz
   have ha : ¬ 9 = i := by rintro rfl; cases hti
   have hs : ¬ 11 = i := by rintro rfl; cases hti
   exact hz.other ha hs hb (fun h => h.past hb)
 case cs =>
  intro p hp v w1 w2 hG hR hE
  simp only [List.mem_cons, List.not_mem_nil, or_false] at hp
  rcases hp with rfl | rfl | rfl | rfl
  ·exact by obtain ⟨il, h1, h2, h⟩ := hR; exact ⟨il, h1, h2, own_grown h hE h4⟩
  ·exact hR
  ·exact hR
  ·exact hR
 ·intro done vals w1 hB _ hZ hni hcl hdn _
  refine q02 rfl ?_ ⟨q04 rfl, noturn rfl⟩
  kernel_rfl
 ·intro done vals w1 hB _ hZ hni hcl hdn _
  have hz : BZ w0 g4 B (fun v => [.int .i64 q.W, .int .i64 q.window, .int .i64 q.fuel, .int .i64 q.r0, .int .i64 q.r1, .int .i64 q.r2, .int .i64 q.r3, q.mems, q.labels, v]) (fun w => OwnN w B (.slice q.A q.n q.c) nl N) (Value.slice q.A q.n q.c) 9 11 done vals w1 := hZ
  have h9 := hcl 11 _ rfl (by kernel_rfl)
  have hx := hz.x
  rw [if_neg (by rw [h9]; simp)] at hx
  refine q02 rfl ?_ ⟨q04 rfl, noturn rfl⟩
  exact q0A rfl (by kernel_rfl) (CellsAt.of_block hx 9 _ rfl) Try.underlying31 rfl
 ·intro done vals w1 hB _ hZ hni hcl hdn _
  refine q02 rfl ?_ ⟨q04 rfl, noturn rfl⟩
  kernel_rfl
 ·intro done vals w1 hB _ hZ hni hcl hdn _
  refine q02 rfl ?_ ⟨q04 rfl, noturn rfl⟩
  kernel_rfl
 ·intro done vals w1 hB _ hZ hni hcl hdn _
  refine q02 rfl ?_ ⟨q04 rfl, noturn rfl⟩
  exact Eq.trans (b := .ok (.value (.int .i64 (IntKind.i64.wrap (((i : Int)) + (2))))) w1) (by kernel_rfl) (by rw [IntWalk.i64_in _ (by omega)])
 ·intro done vals w1 hB _ hZ hni hcl hdn _
  have hz : BZ w0 g4 B (fun v => [.int .i64 q.W, .int .i64 q.window, .int .i64 q.fuel, .int .i64 q.r0, .int .i64 q.r1, .int .i64 q.r2, .int .i64 q.r3, q.mems, q.labels, v]) (fun w => OwnN w B (.slice q.A q.n q.c) nl N) (Value.slice q.A q.n q.c) 9 11 done vals w1 := hZ
  refine q12 (f := 55) (args := #[.int .i64 ((i : Int) + 2), .pointer (some ⟨b1, 0, none⟩)]) (w1 := w1) rfl (by kernel_rfl) ?_
  refine (kfn_any b1 AL l cL ((i : Int) + 2) w1 ((hz.b.cell (p := ⟨b1, 0, none⟩) h14).trans HX1.out) (HRL.out w1 hz.b) (by omega)).mono ?_
  rintro e1 w2 ⟨rfl, rfl⟩
  exact ⟨_, rfl, q18 rfl (Below.refl _ _), noturn rfl⟩
 ·intro done vals w1 hB _ hZ hni hcl hdn _
  refine q02 rfl ?_ ⟨q04 rfl, noturn rfl⟩
  kernel_rfl
 ·intro done vals w1 hB _ hZ hni hcl hdn _
  refine q12 (f := 57) (args := #[.int .i64 (kOf l ((i : Int) + 2)), .int .i64 N]) (w1 := w1) rfl (by kernel_rfl) ?_
  refine (ins_any _ N hN w1).mono ?_
  rintro e1 w2 ⟨e, he, rfl, h2⟩
  exact ⟨_, rfl, q21 rfl ⟨e, rfl, he⟩ h2, noturn rfl⟩
 ·intro done vals w1 hB _ hZ hni hcl hdn hd
  obtain ⟨e, e6, he⟩ : ∃ e : Inst, vals 7 = e.v ∧ InsOk e N := hd 7 (by kernel_rfl)
  clear hd
  exact q1D (v := .slice (some ⟨w1.heap.size, 0, none⟩) 1 1) (w' := w1.alloc (.cells e.cs.toArray 53)) rfl (by rw [q0D e6]; kernel_rfl) ⟨q21 rfl ⟨w1.heap.size, e, rfl, he, heap_alloc_new w1 _⟩ (q00 _ _), noturn rfl⟩
 ·intro done vals w1 hB _ hZ hni hcl hdn hd
  obtain ⟨g, e, e7, he, hh⟩ : ∃ (g : Nat) (e : Inst), vals 8 = .slice (some ⟨g, 0, none⟩) 1 1 ∧ InsOk e N ∧ w1.heap[g]? = some (.cells e.cs.toArray 53 (0, 0)) := hd 8 (by kernel_rfl)
  clear hd
  have hz : BZ w0 g4 B (fun v => [.int .i64 q.W, .int .i64 q.window, .int .i64 q.fuel, .int .i64 q.r0, .int .i64 q.r1, .int .i64 q.r2, .int .i64 q.r3, q.mems, q.labels, v]) (fun w => OwnN w B (.slice q.A q.n q.c) nl N) (Value.slice q.A q.n q.c) 9 11 done vals w1 := hZ
  have h9 := hcl 11 _ rfl (by kernel_rfl)
  obtain ⟨il, hil, hok, hown⟩ := hz.r hni
  refine q36 rfl (.tmp 160) (.tmp 167) _ rfl B _ _ 9 80 Try.underlying31 info_ins rfl (by omega) (v := .slice q.A q.n q.c) (by kernel_rfl) hown (A := some ⟨g, 0, none⟩) (m := 1) (c := 1) ?_ (q17 (cs := e.cs) hh rfl) (by simp [Inst.cs, Value.oneCell']) (by simp only [maxLen]; omega) (by omega) hz.s ?_
  ·rw [q0D e7]
   kernel_rfl
  intro v2 w2 h1 h2 h3
  refine ⟨q16 rfl (OwnN.more hil hok he h1) (hB.grown h2 (by have := hz.s; omega) (fun k hk => by have := (World.ownsRow.lt hown k hk).1; omega)) trivial h2.size trivial, fun _ => hz.app h9 hown h2 (own_sl h1) (by decide) h4⟩
 ·intro done vals w1 hB _ hZ hni hcl hdn _
  refine q02 rfl ?_ ⟨q04 rfl, noturn rfl⟩
  kernel_rfl
 ·intro done vals w1 hB _ hZ hni hcl hdn _
  have hz : BZ w0 g4 B (fun v => [.int .i64 q.W, .int .i64 q.window, .int .i64 q.fuel, .int .i64 q.r0, .int .i64 q.r1, .int .i64 q.r2, .int .i64 q.r3, q.mems, q.labels, v]) (fun w => OwnN w B (.slice q.A q.n q.c) nl N) (Value.slice q.A q.n q.c) 9 11 done vals w1 := hZ
  have hj := hdn 9 (by kernel_rfl)
  have hst := q08 w1 ⟨g4, 9, none⟩ (vals 9)
  refine q14 (w' := w1.setCell ⟨g4, 9, none⟩ (vals 9)) rfl ?_ ⟨q15 rfl (hB.setCell (Nat.le_refl _) _) trivial hst.size hst, fun _ => hz.store hj hni (fun _ _ => rfl) h4⟩
  obtain ⟨s, es⟩ := hz.q hj
  rw [q0D es]
  exact q13 rfl (by kernel_rfl) (by kernel_rfl) (q22 (CellsAt.of_block hz.x 9 _ rfl) (frozen_of_row w1 g4 9 _ _ hz.x) (by kernel_rfl))
 intro done vals w9 b9 _ hall hZ hr
 have hz : BZ w0 g4 B (fun v => [.int .i64 q.W, .int .i64 q.window, .int .i64 q.fuel, .int .i64 q.r0, .int .i64 q.r1, .int .i64 q.r2, .int .i64 q.r3, q.mems, q.labels, v]) (fun w => OwnN w B (.slice q.A q.n q.c) nl N) (Value.slice q.A q.n q.c) 9 11 done vals w9 := hZ
 have hap := hr 9 (by simp) (by simp)
 have hx := hz.x
 rw [if_pos (hall 11 (by simp))] at hx
 obtain ⟨s, es⟩ := hz.q (hall 9 (by simp))
 simp only [fillT, Tell.is, Tell.draws, Tell.makes, Tell.turns, Act.put, List.setIfInBounds_toArray, List.set_cons_zero, List.set_cons_succ]
 rw [es] at hx hap
 exact hQ _ _ _ _ _ _ _ _ _ _ _ w9 s hap hx hz.k hz.b hz.s
end
section
structure MemE where
 name : ByteArray
 secret : Bool
 n : Int
def MemE.cs (e : MemE) : List Value := [.string e.name, .bool e.secret, .int .i64 e.n]
def memCs (l : List MemE) : List Value := l.flatMap MemE.cs
theorem MemE.cs_length (e : MemE) : e.cs.length = 3 := rfl
theorem memCs_append (l m : List MemE) : memCs (l ++ m) = memCs l ++ memCs m := by simp [memCs]
theorem memCs_one (e : MemE) : memCs [e] = e.cs := by simp [memCs]
theorem memCs_get (l : List MemE) (i : Nat) (h : i < l.length) (j : Nat) (hj : j < 3) : (memCs l)[i * 3 + j]? = l[i].cs[j]? := by
 induction l generalizing i with
 | nil => simp at h
 | cons e l ih =>
  cases i with
  | zero =>
   rw [memCs, List.flatMap_cons, List.getElem?_append_left (by rw [MemE.cs_length]; omega)]
   simp
  | succ i =>
   rw [memCs, List.flatMap_cons, List.getElem?_append_right (by rw [MemE.cs_length]; omega), MemE.cs_length]
   have := ih i (by simpa using h)
   rw [show (i + 1) * 3 + j - 3 = i * 3 + j by omega]
   simpa [memCs] using this
theorem info_mem : (Try.prog.info? 49).map (fun i => (i.zero, i.size, i.bytes)) = some (some (.agg #[.string ⟨#[]⟩, .bool false, .int .i64 0]), 3, 32) := by kernel_rfl
def OwnM (w : World) (B : Nat) (v : Value) (l : List MemE) : Prop := w.ownsRow B 49 3 v l.length (memCs l)
theorem OwnM.past {w w' : World} {B : Nat} {v : Value} {l : List MemE} (h : OwnM w B v l) (hb : Below w.heap.size w w') : OwnM w' B v l := own_past h hb
theorem OwnM.nil {w : World} {B : Nat} : OwnM w B (.slice none 0 0) [] := World.ownsRow_nil _ _ _ _
def MemOk (l : List MemE) : Prop := l.length ≤ 2 ∧ ∀ e ∈ l, 1 ≤ e.n ∧ e.n ≤ 2
theorem append_mem {ops : Array Oper} {rest : List Oper} {o : Oper} {a : Act} {Q : Exit → Act → World → Prop} (W : World) (hgd : o.guard = none) (s x : Operand)
  (ho : o.op = .call { callee := .builtin .append, args := #[s, x], argTypes := #[29, 29] }) (B : Nat) {v : Value} {l : List MemE} (hs : a.eval s = v) (hown : OwnM W B v l) (g : Nat) (e : MemE)
  (hx : a.eval x = .slice (some ⟨g, 0, none⟩) 1 1) (hg : W.heap[g]? = some (.cells e.cs.toArray 49 (0, 0))) (hl : l.length < 1000000) (hB : B ≤ W.heap.size)
  (h : ∀ v' w', OwnM w' B v' (l ++ [e]) → W.grownBy w' v.ownBlock → Below B W w' → wpList Try.prog ops Q rest (a.put o.dst v') w') : wpList Try.prog ops Q (o :: rest) a W := by
 obtain ⟨i0, hi0, hz0, hz1, hz2⟩ := info_parts info_mem
 refine q1F W hgd s x _ ho B 49 i0 _ 3 32 Try.underlying29 hi0 hz0 hz1 hz2 rfl (by omega) v l.length (memCs l) hs hown W.heap.size (some ⟨g, 0, none⟩) 1 1 e.cs hx (q17 hg rfl) (by simp [MemE.cs, Value.oneCell'])
  (by simp only [maxLen]; omega) (by omega) hB fun v' w' h1 h2 _ => h v' w' ?_ h2 ((Below.refl _ _).grown h2 hB (fun k hk => (World.ownsRow.lt hown k hk).1))
 unfold OwnM
 rw [memCs_append, memCs_one, List.length_append]
 exact h1
structure MakeIs (w : World) (p : Prg) (il : List Inst) (ml : List MemE) : Prop where
 pi : PIs w p il
 W : p.W = 1 ∨ p.W = 2
 win : 1 ≤ p.window ∧ p.window ≤ 3
 ok : ∀ e ∈ il, InsOk e il.length
 len : 2 ≤ il.length ∧ il.length ≤ 5
 mem : ∃ (A : Option Addr) (c : Nat), p.mems = .slice A ml.length c ∧ ml.length ≤ c ∧ Reads w w.heap.size 3 A ml.length (memCs ml)
 mok : MemOk ml
 lab : ∃ (A : Option Addr) (n c : Nat), p.labels = .slice A n c
theorem MakeIs.past {w w' : World} {p : Prg} {il : List Inst} {ml : List MemE} (h : MakeIs w p il ml) (hb : Below w.heap.size w w') : MakeIs w' p il ml := by
 obtain ⟨A, c, e, hc, hr⟩ := h.mem
 exact ⟨h.pi.past hb, h.W, h.win, h.ok, h.len, ⟨A, c, e, hc, hr.past hb⟩, h.mok, h.lab⟩
def MakePost (w : World) (en : Ending) (w' : World) : Prop := ∃ (p : Prg) (il : List Inst) (ml : List MemE), en = .returned p.v ∧ MakeIs w' p il ml ∧ Below w.heap.size w w'
end
end Go.Proofs.Ytchldbkjapnlcaa
