/- RetiOldest: the two great regions, the plain law. -/
import Derived.Test.YtchldbkjapnlcaaJr
import Derived.Test.YtchldbkjapnlcaaJu
import Derived.Test.YtchldbkjapnlcaaJc
set_option linter.unusedVariables false
set_option linter.unusedSimpArgs false
section
namespace Go.Proofs.Ytchldbkjapnlcaa
open Go.RowKit

noncomputable def regOl (id : Nat) : Code := (Try.f5.body.bind (findRegion id)).getD .skip
theorem eq_arr4 (a b c d : Int) (w : World) : (Op.equalIn 10000 28 (.agg #[.int .i64 a, .int .i64 b, .int .i64 c, .int .i64 d]) (.agg #[.int .i64 a, .int .i64 b, .int .i64 c, .int .i64 d])).run Try.prog w = .ok true w := by
 have u3 := Try.underlying3
 have a3 := Try.isAgg3
 have z3 := Try.sizeOf3
 rw [show (10000 : Nat) = 9999 + 1 from rfl, Op.equalIn]
 simp only [Sem.run_bind, run_underlying Try.underlying28, Result.andThen_ok]
 simp only [Std.Legacy.Range.forIn_eq_forIn_range', Std.Legacy.Range.size, Nat.sub_zero, Nat.add_sub_cancel, Nat.div_one, List.range'_succ, List.range'_zero, List.forIn_cons, List.forIn_nil]
 go_simp
theorem CellsAt.four {w : World} {b off : Nat} {c0 c1 c2 c3 : Value} {r : List Value} (h : CellsAt w b off (c0 :: c1 :: c2 :: c3 :: r)) : CellsAt w b off [c0, c1, c2, c3] := fun j u hu => h j u (by
 match j, hu with
 | 0, hu => exact hu
 | 1, hu => exact hu
 | 2, hu => exact hu
 | 3, hu => exact hu
 | n + 4, hu => simp at hu)
/-- How many places differ ahead of one. -/
def cntI (a b : List Int) : Nat → Nat
 | 0 => 0
 | k + 1 => cntI a b k + (if a[k]? = b[k]? then 0 else 1)
theorem cntI_same (a : List Int) : ∀ k, cntI a a k = 0
 | 0 => rfl
 | k + 1 => by rw [cntI, cntI_same a k, if_pos rfl]
theorem cntI_set (a : List Int) (i : Nat) (v : Int) : ∀ k, cntI (a.set i v) a k ≤ (if i < k then 1 else 0)
 | 0 => by simp [cntI]
 | k + 1 => by
  rw [cntI]
  have h := cntI_set a i v k
  by_cases hik : i = k
  ·subst hik
   rw [if_neg (Nat.lt_irrefl i)] at h
   rw [if_pos (Nat.lt_succ_self i)]
   split <;> omega
  ·rw [List.getElem?_set_ne hik, if_pos rfl, Nat.add_zero]
   refine Nat.le_trans h ?_
   by_cases h1 : i < k
   ·rw [if_pos h1, if_pos (by omega)]; exact Nat.le_refl _
   ·rw [if_neg h1]; exact Nat.zero_le _
theorem cntI_le (a b : List Int) : ∀ k, cntI a b k ≤ k
 | 0 => Nat.le_refl _
 | k + 1 => by rw [cntI]; have := cntI_le a b k; split <;> omega
def regsOf (s : State) : List Int := [s.r0, s.r1, s.r2, s.r3]
theorem setReg_regs (s : State) (d v : Int) (h0 : 0 ≤ d) (h3 : d ≤ 3) : regsOf (setReg s d v) = (regsOf s).set d.toNat v := by
 have : d = 0 ∨ d = 1 ∨ d = 2 ∨ d = 3 := by omega
 rcases this with rfl | rfl | rfl | rfl <;> rfl
theorem popEnts_len (l : List Ent) : (popEnts l).length ≤ l.length := by cases l <;> simp [popEnts]
/-- What is committed of one turns one thing at most. -/
theorem commit_one (m : Conf) (e : Ent) (x : Inst) (hd : 0 ≤ x.d ∧ x.d ≤ 3) : (commitOf m e x).st.mem.length = m.st.mem.length ∧ (commitOf m e x).buf = m.buf ∧ (commitOf m e x).rsb = m.rsb ∧ (commitOf m e x).st.pc = m.st.pc ∧ (commitOf m e x).fin = m.fin ∧
  cntI (commitOf m e x).st.mem m.st.mem m.st.mem.length + cntI (regsOf (commitOf m e x).st) (regsOf m.st) 4 + (if (commitOf m e x).st.stack.length = m.st.stack.length then 0 else 1) ≤ 1 := by
 unfold commitOf
 by_cases c1 : x.kind = 1 ∨ x.kind = 2 ∨ x.kind = 4
 ·rw [if_pos c1]
  obtain ⟨s1, s2, s3⟩ := setReg_keeps m.st x.d e.val
  refine ⟨by show (setReg m.st x.d e.val).mem.length = _; rw [s1], rfl, rfl, s3, rfl, ?_⟩
  show cntI (setReg m.st x.d e.val).mem m.st.mem _ + cntI (regsOf (setReg m.st x.d e.val)) (regsOf m.st) 4 + (if (setReg m.st x.d e.val).stack.length = m.st.stack.length then 0 else 1) ≤ 1
  rw [s1, s2, cntI_same, if_pos rfl, setReg_regs _ _ _ hd.1 hd.2]
  have := cntI_set (regsOf m.st) x.d.toNat e.val 4
  split at this <;> omega
 rw [if_neg c1]
 by_cases c3 : x.kind = 3
 ·rw [if_pos c3]
  refine ⟨by show (m.st.mem.set _ _).length = _; rw [List.length_set], rfl, rfl, rfl, rfl, ?_⟩
  show cntI (m.st.mem.set e.addr.toNat e.val) m.st.mem _ + cntI (regsOf m.st) (regsOf m.st) 4 + (if m.st.stack.length = m.st.stack.length then 0 else 1) ≤ 1
  rw [cntI_same, if_pos rfl]
  have := cntI_set m.st.mem e.addr.toNat e.val m.st.mem.length
  split at this <;> omega
 rw [if_neg c3]
 have rest : ∀ st : List Int, (if st.length = m.st.stack.length then 0 else 1) ≤ 1 := fun st => by split <;> omega
 by_cases c8 : x.kind = 8
 ·rw [if_pos c8]
  exact ⟨rfl, rfl, rfl, rfl, rfl, by show cntI m.st.mem m.st.mem _ + cntI (regsOf m.st) (regsOf m.st) 4 + _ ≤ 1; rw [cntI_same, cntI_same]; simpa only [Nat.zero_add] using rest _⟩
 rw [if_neg c8]
 by_cases c9 : x.kind = 9
 ·rw [if_pos c9]
  exact ⟨rfl, rfl, rfl, rfl, rfl, by show cntI m.st.mem m.st.mem _ + cntI (regsOf m.st) (regsOf m.st) 4 + _ ≤ 1; rw [cntI_same, cntI_same]; simpa only [Nat.zero_add] using rest _⟩
 rw [if_neg c9]
 exact ⟨rfl, rfl, rfl, rfl, rfl, by rw [cntI_same, cntI_same]; simp⟩
set_option maxRecDepth 100000 in
set_option maxHeartbeats 2000000 in
theorem old_reg8 {z0 z1 z2 z3 z4 z5 z6 z7 z8 z9 z11 z13 z14 z15 z16 z17 z18 z19 z20 z21 z22 z23 z24 z25 z26 z27 z28 z29 z30 z31 z32 z33 z34 z35 z36 z37 z38 z39 z40 z41 z42 z43 z44 z45 z46 z47 z48 z49 z50 z51 z52 z53 z54 z55 z56 z57 z58 z59 z60 z61 z62 z63 z64 z65 z66 z67 z68 z69 z70 z71 z72 z73 z74 z75 z76 z77 z78 z79 z80 z81 z82 z83 z84 z85 z86 z87 z88 z89 z90 z91 z92 z93 z94 z95 z96 z97 z98 z99 z100 z101 z102 z103 z104 z105 z106 z107 z108 z109 z110 z111 z112 z113 z114 z115 z116 z117 z118 z119 z120 z121 z122 z123 z124 z125 z126 z127 z128 z129 z130 z131 z132 z133 z134 z135 z136 z137 z138 z139 z140 z141 z142 z143 z144 z145 z146 z147 z148 z149 z150 z151 z152 z153 z154 z155 z156 z157 z158 z159 z160 z161 z162 z163 z164 z165 z166 z167 : Value} (w0 : World) (g10 S1 eb eo bt : Nat) (r0 r1 r2 r3 cpc fin epc F : Int) (mA kA qA xmA xsA xbA xqA : Option Addr) (mN mC kN kC bC qN qC xmN xmC xsN xsC xbC xqC : Nat) (XDK : Kept (∀ w1, Below w0.heap.size w0 w1 → CellsAt w1 S1 0 [.int .i64 (r0), .int .i64 (r1), .int .i64 (r2), .int .i64 (r3), .slice xmA xmN xmC, .slice xsA xsN xsC, .int .i64 (epc), .slice xbA 0 xbC, .slice xqA 0 xqC, .int .i64 (F)])) (XCK : Kept (∀ w1, Below w0.heap.size w0 w1 → CellsAt w1 g10 0 [.int .i64 (r0), .int .i64 (r1), .int .i64 (r2), .int .i64 (r3), .slice mA mN mC, .slice kA kN kC, .int .i64 (cpc), .slice (some ⟨eb, eo, none⟩) (bt + 1) bC, .slice qA qN qC, .int .i64 (fin)]))
  (XEK : Kept (∀ w1, Below w0.heap.size w0 w1 → CellsAt w1 eb eo [.int .i64 epc])) (Q : Exit → Act → World → Prop)
  (hQ : ∀ (u44 u45 u46 u47 u48 u49 u50 u51 u52 u53 u54 u55 u56 u57 u58 u59 u60 u61 u62 u63 u64 u65 u66 u67 u68 u69 u70 u71 u72 u73 u74 u75 u76 : Value) (w' : World), Below w0.heap.size w0 w' → Q .normal ⟨#[z0, z1, z2, z3, z4, z5, .bool true, z7, z8, z9, .pointer (some ⟨g10, 0, none⟩), z11, .pointer (some ⟨S1, 0, none⟩), z13, z14, z15, z16, z17, z18, z19, z20, z21, z22, z23, z24, z25, z26, z27, z28, z29, z30, z31, z32, z33, z34, z35, z36, z37, z38, z39, z40, z41, z42, z43, u44, u45, u46, u47, u48, u49, u50, u51, u52, u53, u54, u55, u56, u57, u58, u59, u60, u61, u62, u63, u64, u65, u66, u67, u68, u69, u70, u71, u72, u73, u74, u75, u76, z77, z78, z79, z80, z81, z82, z83, z84, z85, z86, z87, z88, z89, z90, z91, z92, z93, z94, z95, z96, z97, z98, z99, z100, z101, z102, z103, z104, z105, z106, z107, z108, z109, z110, z111, z112, z113, z114, z115, z116, z117, z118, z119, z120, z121, z122, z123, z124, z125, z126, z127, z128, z129, z130, z131, z132, z133, z134, z135, z136, z137, z138, z139, z140, z141, z142, z143, z144, z145, z146, z147, z148, z149, z150, z151, z152, z153, z154, z155, z156, z157, z158, z159, z160, z161, z162, z163, z164, z165, z166, z167], []⟩ w') :
  Code.wp Try.prog (regOl 8) Q ⟨#[z0, z1, z2, z3, z4, z5, z6, z7, z8, z9, .pointer (some ⟨g10, 0, none⟩), z11, .pointer (some ⟨S1, 0, none⟩), z13, z14, z15, z16, z17, z18, z19, z20, z21, z22, z23, z24, z25, z26, z27, z28, z29, z30, z31, z32, z33, z34, z35, z36, z37, z38, z39, z40, z41, z42, z43, z44, z45, z46, z47, z48, z49, z50, z51, z52, z53, z54, z55, z56, z57, z58, z59, z60, z61, z62, z63, z64, z65, z66, z67, z68, z69, z70, z71, z72, z73, z74, z75, z76, z77, z78, z79, z80, z81, z82, z83, z84, z85, z86, z87, z88, z89, z90, z91, z92, z93, z94, z95, z96, z97, z98, z99, z100, z101, z102, z103, z104, z105, z106, z107, z108, z109, z110, z111, z112, z113, z114, z115, z116, z117, z118, z119, z120, z121, z122, z123, z124, z125, z126, z127, z128, z129, z130, z131, z132, z133, z134, z135, z136, z137, z138, z139, z140, z141, z142, z143, z144, z145, z146, z147, z148, z149, z150, z151, z152, z153, z154, z155, z156, z157, z158, z159, z160, z161, z162, z163, z164, z165, z166, z167], []⟩ w0 := by
 conv => arg 2; whnf
 have h00 : ((0 : Int) == 0) = true := rfl
 have hee : (epc == epc) = true := by simp
 refine region_tell (w0.heap.size) (G := fun _ => True) (ts := [
   .is (Value.pointer (some ⟨S1, 7, none⟩)),
   .is (Value.slice xbA 0 xbC),
   .is (Value.int .i64 ((0 : Int))),
   .is (Value.bool true),
   .is (Value.bool true),
   .is (Value.pointer (some ⟨S1, 8, none⟩)),
   .is (Value.slice xqA 0 xqC),
   .is (Value.int .i64 ((0 : Int))),
   .is (Value.bool true),
   .is (Value.bool true),
   .is (Value.bool true),
   .is (Value.pointer (some ⟨S1, 0, none⟩)),
   .is (Value.pointer (some ⟨S1, 0, none⟩)),
   .is (.agg #[.int .i64 r0, .int .i64 r1, .int .i64 r2, .int .i64 r3]),
   .is (Value.pointer (some ⟨g10, 0, none⟩)),
   .is (Value.pointer (some ⟨g10, 0, none⟩)),
   .is (.agg #[.int .i64 r0, .int .i64 r1, .int .i64 r2, .int .i64 r3]),
   .is (.bool true),
   .is (Value.bool true),
   .is (Value.bool true),
   .is (Value.pointer (some ⟨S1, 0, none⟩)),
   .is (Value.pointer (some ⟨S1, 6, none⟩)),
   .is (Value.int .i64 (epc)),
   .is (Value.pointer (some ⟨g10, 7, none⟩)),
   .is (Value.slice (some ⟨eb, eo, none⟩) (bt + 1) bC),
   .is (.pointer (some ⟨eb, eo, none⟩)),
   .is (Value.pointer (some ⟨eb, eo, none⟩)),
   .is (Value.int .i64 (epc)),
   .is (Value.bool true),
   .is (Value.bool true),
   .is (Value.bool true),
   .draws (.bool true),
   .is (Value.bool true),
   .is (Value.bool true)])
  (fin := []) (cs := []) (by kernel_rfl) rfl (by kernel_rfl) (by kernel_rfl)
  ⟨trivial, trivial, trivial, trivial, trivial, trivial, trivial, trivial, trivial, trivial, trivial, trivial, trivial, trivial, trivial, trivial, trivial, trivial, trivial, trivial, trivial, trivial, trivial, trivial, trivial, trivial, trivial, trivial, trivial, trivial, trivial, trivial, trivial, trivial, trivial⟩ (fun _ _ _ _ => trivial) (by simp) (by simp) trivial
  ⟨?_, ?_, ?_, ?_, ?_, ?_, ?_, ?_, ?_, ?_, ?_, ?_, ?_, ?_, ?_, ?_, ?_, ?_, ?_, ?_, ?_, ?_, ?_, ?_, ?_, ?_, ?_, ?_, ?_, ?_, ?_, ?_, ?_, ?_, trivial⟩ ?_
 ·intro vals w1 hB _ hd
  clear hd
  refine one_value (v := Value.pointer (some ⟨S1, 7, none⟩)) rfl ?_ (post_is rfl)
  kernel_rfl
 ·intro vals w1 hB _ hd
  clear hd
  refine one_value (v := Value.slice xbA 0 xbC) rfl ?_ (post_is rfl)
  exact exec_cell rfl (by kernel_rfl) ((XDK.out w1 hB) 7 _ rfl) Try.underlying39 rfl
 ·intro vals w1 hB _ hd
  clear hd
  refine one_value (v := Value.int .i64 ((0 : Int))) rfl ?_ (post_is rfl)
  kernel_rfl
 ·intro vals w1 hB _ hd
  clear hd
  refine one_value (v := Value.bool true) rfl ?_ (post_is rfl)
  exact Eq.trans (b := .ok (.value (.bool (((0 : Int)) == (0)))) w1) (by kernel_rfl) (by rw [h00])
 ·intro vals w1 hB _ hd
  clear hd
  refine one_value (v := Value.bool true) rfl ?_ (post_is rfl)
  kernel_rfl
 ·intro vals w1 hB _ hd
  clear hd
  refine one_value_g (v := Value.pointer (some ⟨S1, 8, none⟩)) (by kernel_rfl) ?_ (post_is rfl)
  kernel_rfl
 ·intro vals w1 hB _ hd
  clear hd
  refine one_value_g (v := Value.slice xqA 0 xqC) (by kernel_rfl) ?_ (post_is rfl)
  exact exec_cell rfl (by kernel_rfl) ((XDK.out w1 hB) 8 _ rfl) Try.underlying22 rfl
 ·intro vals w1 hB _ hd
  clear hd
  refine one_value_g (v := Value.int .i64 ((0 : Int))) (by kernel_rfl) ?_ (post_is rfl)
  kernel_rfl
 ·intro vals w1 hB _ hd
  clear hd
  refine one_value_g (v := Value.bool true) (by kernel_rfl) ?_ (post_is rfl)
  exact Eq.trans (b := .ok (.value (.bool (((0 : Int)) == (0)))) w1) (by kernel_rfl) (by rw [h00])
 ·intro vals w1 hB _ hd
  clear hd
  refine one_value (v := Value.bool true) rfl ?_ (post_is rfl)
  kernel_rfl
 ·intro vals w1 hB _ hd
  clear hd
  refine one_value (v := Value.bool true) rfl ?_ (post_is rfl)
  kernel_rfl
 ·intro vals w1 hB _ hd
  clear hd
  refine one_value_g (v := Value.pointer (some ⟨S1, 0, none⟩)) (by kernel_rfl) ?_ (post_is rfl)
  kernel_rfl
 ·intro vals w1 hB _ hd
  clear hd
  refine one_value_g (v := Value.pointer (some ⟨S1, 0, none⟩)) (by kernel_rfl) ?_ (post_is rfl)
  kernel_rfl
 ·intro vals w1 hB _ hd
  clear hd
  refine one_value_g (v := .agg #[.int .i64 r0, .int .i64 r1, .int .i64 r2, .int .i64 r3]) (by kernel_rfl) ?_ (post_is rfl)
  exact exec_load_row rfl (b := S1) (off := 0) (by kernel_rfl) [.int .i64 r0, .int .i64 r1, .int .i64 r2, .int .i64 r3] (CellsAt.four (XDK.out w1 hB)) Try.underlying28 rfl (by kernel_rfl)
 ·intro vals w1 hB _ hd
  clear hd
  refine one_value_g (v := Value.pointer (some ⟨g10, 0, none⟩)) (by kernel_rfl) ?_ (post_is rfl)
  kernel_rfl
 ·intro vals w1 hB _ hd
  clear hd
  refine one_value_g (v := Value.pointer (some ⟨g10, 0, none⟩)) (by kernel_rfl) ?_ (post_is rfl)
  kernel_rfl
 ·intro vals w1 hB _ hd
  clear hd
  refine one_value_g (v := .agg #[.int .i64 r0, .int .i64 r1, .int .i64 r2, .int .i64 r3]) (by kernel_rfl) ?_ (post_is rfl)
  exact exec_load_row rfl (b := g10) (off := 0) (by kernel_rfl) [.int .i64 r0, .int .i64 r1, .int .i64 r2, .int .i64 r3] (CellsAt.four (XCK.out w1 hB)) Try.underlying28 rfl (by kernel_rfl)
 ·intro vals w1 hB _ hd
  clear hd
  refine one_value_g (v := .bool true) (by kernel_rfl) ?_ (post_is rfl)
  simp only [fillT, Tell.is, Tell.draws, Tell.makes, Tell.gets, Act.put, List.setIfInBounds_toArray, List.set_cons_zero, List.set_cons_succ]
  have h4 := eq_arr4 r0 r1 r2 r3
  go_simp
 ·intro vals w1 hB _ hd
  clear hd
  refine one_value (v := Value.bool true) rfl ?_ (post_is rfl)
  kernel_rfl
 ·intro vals w1 hB _ hd
  clear hd
  refine one_value (v := Value.bool true) rfl ?_ (post_is rfl)
  kernel_rfl
 ·intro vals w1 hB _ hd
  clear hd
  refine one_value_g (v := Value.pointer (some ⟨S1, 0, none⟩)) (by kernel_rfl) ?_ (post_is rfl)
  kernel_rfl
 ·intro vals w1 hB _ hd
  clear hd
  refine one_value_g (v := Value.pointer (some ⟨S1, 6, none⟩)) (by kernel_rfl) ?_ (post_is rfl)
  kernel_rfl
 ·intro vals w1 hB _ hd
  clear hd
  refine one_value_g (v := Value.int .i64 (epc)) (by kernel_rfl) ?_ (post_is rfl)
  exact exec_cell rfl (by kernel_rfl) ((XDK.out w1 hB) 6 _ rfl) Try.underlying3 rfl
 ·intro vals w1 hB _ hd
  clear hd
  refine one_value_g (v := Value.pointer (some ⟨g10, 7, none⟩)) (by kernel_rfl) ?_ (post_is rfl)
  kernel_rfl
 ·intro vals w1 hB _ hd
  clear hd
  refine one_value_g (v := Value.slice (some ⟨eb, eo, none⟩) (bt + 1) bC) (by kernel_rfl) ?_ (post_is rfl)
  exact exec_cell rfl (by kernel_rfl) ((XCK.out w1 hB) 7 _ rfl) Try.underlying39 rfl
 ·intro vals w1 hB _ hd
  clear hd
  refine one_value_g (v := .pointer (some ⟨eb, eo, none⟩)) (by kernel_rfl) ?_ (post_is rfl)
  exact (exec_index (k := 0) (n := bt + 1) (c := bC) (b := eb) (off := eo) (size := 8) rfl (by kernel_rfl) (by kernel_rfl) Try.underlying39 (by kernel_rfl) (by omega)).trans (by rw [Nat.zero_mul, Nat.add_zero])
 ·intro vals w1 hB _ hd
  clear hd
  refine one_value_g (v := Value.pointer (some ⟨eb, eo, none⟩)) (by kernel_rfl) ?_ (post_is rfl)
  kernel_rfl
 ·intro vals w1 hB _ hd
  clear hd
  refine one_value_g (v := Value.int .i64 (epc)) (by kernel_rfl) ?_ (post_is rfl)
  exact exec_cell rfl (by kernel_rfl) ((XEK.out w1 hB) 0 _ rfl) Try.underlying3 rfl
 ·intro vals w1 hB _ hd
  clear hd
  refine one_value_g (v := Value.bool true) (by kernel_rfl) ?_ (post_is rfl)
  exact Eq.trans (b := .ok (.value (.bool ((epc) == (epc)))) w1) (by kernel_rfl) (by rw [hee])
 ·intro vals w1 hB _ hd
  clear hd
  refine one_value (v := Value.bool true) rfl ?_ (post_is rfl)
  kernel_rfl
 ·intro vals w1 hB _ hd
  clear hd
  refine one_value (v := Value.bool true) rfl ?_ (post_is rfl)
  kernel_rfl
 ·intro vals w1 hB _ hd
  clear hd
  refine one_calls_g (f := 31) (args := #[]) (w1 := w1) (by kernel_rfl) (by kernel_rfl) ?_
  refine (awake16 w1).mono ?_
  rintro e1 w3 ⟨rfl, hb⟩
  exact ⟨_, rfl, post_draws rfl hb⟩
 ·intro vals w1 hB _ hd
  clear hd
  refine one_value (v := Value.bool true) rfl ?_ (post_is rfl)
  kernel_rfl
 ·intro vals w1 hB _ hd
  clear hd
  refine one_value (v := Value.bool true) rfl ?_ (post_is rfl)
  kernel_rfl
 intro vals w15 b15 _ hr
 clear hr
 simp only [fillT, Tell.is, Tell.draws, Act.put, List.setIfInBounds_toArray, List.set_cons_zero, List.set_cons_succ]
 exact hQ _ _ _ _ _ _ _ _ _ _ _ _ _ _ _ _ _ _ _ _ _ _ _ _ _ _ _ _ _ _ _ _ _ w15 b15
set_option maxRecDepth 100000 in
set_option maxHeartbeats 2000000 in
theorem old_reg25 {z0 z1 z2 z3 z4 z5 z6 z7 z8 z9 z11 z13 z15 z16 z17 z18 z19 z20 z21 z22 z23 z24 z25 z26 z27 z28 z29 z30 z31 z32 z33 z34 z35 z36 z37 z38 z39 z40 z41 z42 z43 z44 z45 z46 z47 z48 z49 z50 z51 z52 z53 z54 z55 z56 z57 z58 z59 z60 z61 z62 z63 z64 z65 z66 z67 z68 z69 z70 z71 z72 z73 z74 z75 z76 z77 z78 z79 z80 z81 z82 z83 z84 z85 z86 z87 z88 z89 z90 z91 z92 z93 z94 z95 z96 z97 z98 z99 z100 z101 z102 z103 z104 z105 z106 z107 z108 z109 z110 z111 z112 z113 z114 z115 z116 z117 z118 z119 z120 z121 z122 z123 z124 z125 z126 z127 z128 z129 z130 z131 z132 z133 z134 z135 z136 z137 z138 z139 z140 z141 z142 z143 z144 z145 z146 z147 z148 z149 z150 z151 z152 z153 z154 z155 z156 z157 z158 z159 z160 z161 z162 z163 z164 z165 z166 z167 : Value} (w0 : World) (g10 S1 : Nat) (bl : List Ent) (t F x0 x1 x2 x3 r0 r1 r2 r3 cpc fin : Int) (mA kA bA qA xmA xsA xbA xqA : Option Addr) (mN mC kN kC bC qN qC xmN xmC xsN xsC xbC xqC : Nat) (XDK : Kept (∀ w1, Below w0.heap.size w0 w1 → CellsAt w1 S1 0 [.int .i64 (x0), .int .i64 (x1), .int .i64 (x2), .int .i64 (x3), .slice xmA xmN xmC, .slice xsA xsN xsC, .int .i64 (cpc), .slice xbA ((popEnts bl).length) xbC, .slice xqA qN xqC, .int .i64 (F)])) (XCK : Kept (∀ w1, Below w0.heap.size w0 w1 → CellsAt w1 g10 0 [.int .i64 (r0), .int .i64 (r1), .int .i64 (r2), .int .i64 (r3), .slice mA mN mC, .slice kA kN kC, .int .i64 (cpc), .slice bA bl.length bC, .slice qA qN qC, .int .i64 (fin)]))
  (HBL : Kept (RdE w0 bA bl)) (HXB : Kept (RdE w0 xbA (popEnts bl))) (HSM : Kept (Small bl)) (hl : bl.length ≤ 1000) (ht : t ≤ 1) (Q : Exit → Act → World → Prop)
  (hQ : ∀ (u137 u138 u139 u140 u141 u142 u143 u144 u145 u146 u147 u148 u149 u150 u151 u152 u153 u154 u155 u156 u157 u158 u159 u160 u161 u162 u163 u164 u165 u166 u167 : Value) (w' : World), Below w0.heap.size w0 w' → Q .normal ⟨#[z0, z1, z2, z3, z4, z5, .bool true, z7, z8, z9, .pointer (some ⟨g10, 0, none⟩), z11, .pointer (some ⟨S1, 0, none⟩), z13, .int .i64 t, z15, z16, z17, z18, z19, z20, z21, z22, z23, z24, z25, z26, z27, z28, z29, z30, z31, z32, z33, z34, z35, z36, z37, z38, z39, z40, z41, z42, z43, z44, z45, z46, z47, z48, z49, z50, z51, z52, z53, z54, z55, z56, z57, z58, z59, z60, z61, z62, z63, z64, z65, z66, z67, z68, z69, z70, z71, z72, z73, z74, z75, z76, z77, z78, z79, z80, z81, z82, z83, z84, z85, z86, z87, z88, z89, z90, z91, z92, z93, z94, z95, z96, z97, z98, z99, z100, z101, z102, z103, z104, z105, z106, z107, z108, z109, z110, z111, z112, z113, z114, z115, z116, z117, z118, z119, z120, z121, z122, z123, z124, z125, z126, z127, z128, z129, z130, z131, z132, z133, z134, z135, z136, u137, u138, u139, u140, u141, u142, u143, u144, u145, u146, u147, u148, u149, u150, u151, u152, u153, u154, u155, u156, u157, u158, u159, u160, u161, u162, u163, u164, u165, u166, u167], []⟩ w') :
  Code.wp Try.prog (regOl 25) Q ⟨#[z0, z1, z2, z3, z4, z5, z6, z7, z8, z9, .pointer (some ⟨g10, 0, none⟩), z11, .pointer (some ⟨S1, 0, none⟩), z13, .int .i64 t, z15, z16, z17, z18, z19, z20, z21, z22, z23, z24, z25, z26, z27, z28, z29, z30, z31, z32, z33, z34, z35, z36, z37, z38, z39, z40, z41, z42, z43, z44, z45, z46, z47, z48, z49, z50, z51, z52, z53, z54, z55, z56, z57, z58, z59, z60, z61, z62, z63, z64, z65, z66, z67, z68, z69, z70, z71, z72, z73, z74, z75, z76, z77, z78, z79, z80, z81, z82, z83, z84, z85, z86, z87, z88, z89, z90, z91, z92, z93, z94, z95, z96, z97, z98, z99, z100, z101, z102, z103, z104, z105, z106, z107, z108, z109, z110, z111, z112, z113, z114, z115, z116, z117, z118, z119, z120, z121, z122, z123, z124, z125, z126, z127, z128, z129, z130, z131, z132, z133, z134, z135, z136, z137, z138, z139, z140, z141, z142, z143, z144, z145, z146, z147, z148, z149, z150, z151, z152, z153, z154, z155, z156, z157, z158, z159, z160, z161, z162, z163, z164, z165, z166, z167], []⟩ w0 := by
 conv => arg 2; whnf
 have ht1 : decide (t ≤ 1) = true := by simpa using ht
 have hpp : (cpc == cpc) = true := by simp
 have hqq : ((qN : Int) == (qN : Int)) = true := by simp
 refine region_tell (w0.heap.size) (G := fun _ => True) (ts := [
   .is (Value.int .i64 (t)),
   .is (Value.bool true),
   .is (Value.bool true),
   .is (Value.pointer (some ⟨S1, 7, none⟩)),
   .is (Value.slice xbA ((popEnts bl).length) xbC),
   .is (Value.pointer (some ⟨g10, 7, none⟩)),
   .is (Value.slice bA bl.length bC),
   .makes (fun v w' => OwnE w' w0.heap.size v (popEnts bl)),
   .draws (.bool true),
   .is (Value.bool true),
   .is (Value.bool true),
   .is (Value.pointer (some ⟨S1, 0, none⟩)),
   .is (Value.pointer (some ⟨S1, 6, none⟩)),
   .is (Value.int .i64 (cpc)),
   .is (Value.pointer (some ⟨g10, 0, none⟩)),
   .is (Value.pointer (some ⟨g10, 6, none⟩)),
   .is (Value.int .i64 (cpc)),
   .is (Value.bool true),
   .is (Value.bool true),
   .is (Value.bool true),
   .is (Value.pointer (some ⟨S1, 8, none⟩)),
   .is (Value.slice xqA qN xqC),
   .is (Value.int .i64 ((qN : Int))),
   .is (Value.pointer (some ⟨g10, 8, none⟩)),
   .is (Value.slice qA qN qC),
   .is (Value.int .i64 ((qN : Int))),
   .is (Value.bool true),
   .is (Value.bool true),
   .is (Value.bool true),
   .draws (.bool true),
   .is (Value.bool true),
   .is (Value.bool true)])
  (fin := []) (cs := []) (by kernel_rfl) rfl (by kernel_rfl) (by kernel_rfl)
  ⟨trivial, trivial, trivial, trivial, trivial, trivial, trivial, (fun _ _ _ h hb => OwnE.past h hb), trivial, trivial, trivial, trivial, trivial, trivial, trivial, trivial, trivial, trivial, trivial, trivial, trivial, trivial, trivial, trivial, trivial, trivial, trivial, trivial, trivial, trivial, trivial, trivial, trivial⟩ (fun _ _ _ _ => trivial) (by simp) (by simp) trivial
  ⟨?_, ?_, ?_, ?_, ?_, ?_, ?_, ?_, ?_, ?_, ?_, ?_, ?_, ?_, ?_, ?_, ?_, ?_, ?_, ?_, ?_, ?_, ?_, ?_, ?_, ?_, ?_, ?_, ?_, ?_, ?_, ?_, trivial⟩ ?_
 ·intro vals w1 hB _ hd
  clear hd
  refine one_value (v := Value.int .i64 (t)) rfl ?_ (post_is rfl)
  kernel_rfl
 ·intro vals w1 hB _ hd
  clear hd
  refine one_value (v := Value.bool true) rfl ?_ (post_is rfl)
  exact Eq.trans (b := .ok (.value (.bool (decide ((t) ≤ (1))))) w1) (by kernel_rfl) (by rw [ht1])
 ·intro vals w1 hB _ hd
  clear hd
  refine one_value (v := Value.bool true) rfl ?_ (post_is rfl)
  kernel_rfl
 ·intro vals w1 hB _ hd
  clear hd
  refine one_value_g (v := Value.pointer (some ⟨S1, 7, none⟩)) (by kernel_rfl) ?_ (post_is rfl)
  kernel_rfl
 ·intro vals w1 hB _ hd
  clear hd
  refine one_value_g (v := Value.slice xbA ((popEnts bl).length) xbC) (by kernel_rfl) ?_ (post_is rfl)
  exact exec_cell rfl (by kernel_rfl) ((XDK.out w1 hB) 7 _ rfl) Try.underlying39 rfl
 ·intro vals w1 hB _ hd
  clear hd
  refine one_value_g (v := Value.pointer (some ⟨g10, 7, none⟩)) (by kernel_rfl) ?_ (post_is rfl)
  kernel_rfl
 ·intro vals w1 hB _ hd
  clear hd
  refine one_value_g (v := Value.slice bA bl.length bC) (by kernel_rfl) ?_ (post_is rfl)
  exact exec_cell rfl (by kernel_rfl) ((XCK.out w1 hB) 7 _ rfl) Try.underlying39 rfl
 ·intro vals w1 hB _ hd
  clear hd
  refine one_calls_g (f := 33) (args := #[.slice bA bl.length bC]) (w1 := w1) (by kernel_rfl) (by kernel_rfl) ?_
  refine (ref_pop bA bC bl w1 (HBL.out.past hB) (by omega) HSM.out).mono ?_
  rintro e1 w3 ⟨v3, rfl, ho, hb⟩
  exact ⟨_, rfl, post_makes rfl (OwnE.lower ho hB.size) hb⟩
 ·intro vals w1 hB _ hd
  have da : OwnE w1 w0.heap.size (vals 7) (popEnts bl) := hd 7 (by kernel_rfl)
  clear hd
  obtain ⟨A1, c1, e1, _, r1⟩ := OwnE.shape da
  refine one_calls_g (f := 32) (args := #[.slice xbA (popEnts bl).length xbC, vals 7]) (w1 := w1) (by kernel_rfl) (by kernel_rfl) ?_
  rw [e1]
  refine (same_ents xbA A1 xbC c1 (popEnts bl) (popEnts bl) w1 (HXB.out.past hB) r1 (by have := popEnts_len bl; omega)).mono ?_
  rw [decide_eq_true rfl]
  rintro e2 w3 ⟨rfl, hb⟩
  exact ⟨_, rfl, post_draws rfl hb⟩
 ·intro vals w1 hB _ hd
  clear hd
  refine one_value (v := Value.bool true) rfl ?_ (post_is rfl)
  kernel_rfl
 ·intro vals w1 hB _ hd
  clear hd
  refine one_value (v := Value.bool true) rfl ?_ (post_is rfl)
  kernel_rfl
 ·intro vals w1 hB _ hd
  clear hd
  refine one_value_g (v := Value.pointer (some ⟨S1, 0, none⟩)) (by kernel_rfl) ?_ (post_is rfl)
  kernel_rfl
 ·intro vals w1 hB _ hd
  clear hd
  refine one_value_g (v := Value.pointer (some ⟨S1, 6, none⟩)) (by kernel_rfl) ?_ (post_is rfl)
  kernel_rfl
 ·intro vals w1 hB _ hd
  clear hd
  refine one_value_g (v := Value.int .i64 (cpc)) (by kernel_rfl) ?_ (post_is rfl)
  exact exec_cell rfl (by kernel_rfl) ((XDK.out w1 hB) 6 _ rfl) Try.underlying3 rfl
 ·intro vals w1 hB _ hd
  clear hd
  refine one_value_g (v := Value.pointer (some ⟨g10, 0, none⟩)) (by kernel_rfl) ?_ (post_is rfl)
  kernel_rfl
 ·intro vals w1 hB _ hd
  clear hd
  refine one_value_g (v := Value.pointer (some ⟨g10, 6, none⟩)) (by kernel_rfl) ?_ (post_is rfl)
  kernel_rfl
 ·intro vals w1 hB _ hd
  clear hd
  refine one_value_g (v := Value.int .i64 (cpc)) (by kernel_rfl) ?_ (post_is rfl)
  exact exec_cell rfl (by kernel_rfl) ((XCK.out w1 hB) 6 _ rfl) Try.underlying3 rfl
 ·intro vals w1 hB _ hd
  clear hd
  refine one_value_g (v := Value.bool true) (by kernel_rfl) ?_ (post_is rfl)
  exact Eq.trans (b := .ok (.value (.bool ((cpc) == (cpc)))) w1) (by kernel_rfl) (by rw [hpp])
 ·intro vals w1 hB _ hd
  clear hd
  refine one_value (v := Value.bool true) rfl ?_ (post_is rfl)
  kernel_rfl
 ·intro vals w1 hB _ hd
  clear hd
  refine one_value (v := Value.bool true) rfl ?_ (post_is rfl)
  kernel_rfl
 ·intro vals w1 hB _ hd
  clear hd
  refine one_value_g (v := Value.pointer (some ⟨S1, 8, none⟩)) (by kernel_rfl) ?_ (post_is rfl)
  kernel_rfl
 ·intro vals w1 hB _ hd
  clear hd
  refine one_value_g (v := Value.slice xqA qN xqC) (by kernel_rfl) ?_ (post_is rfl)
  exact exec_cell rfl (by kernel_rfl) ((XDK.out w1 hB) 8 _ rfl) Try.underlying22 rfl
 ·intro vals w1 hB _ hd
  clear hd
  refine one_value_g (v := Value.int .i64 ((qN : Int))) (by kernel_rfl) ?_ (post_is rfl)
  kernel_rfl
 ·intro vals w1 hB _ hd
  clear hd
  refine one_value_g (v := Value.pointer (some ⟨g10, 8, none⟩)) (by kernel_rfl) ?_ (post_is rfl)
  kernel_rfl
 ·intro vals w1 hB _ hd
  clear hd
  refine one_value_g (v := Value.slice qA qN qC) (by kernel_rfl) ?_ (post_is rfl)
  exact exec_cell rfl (by kernel_rfl) ((XCK.out w1 hB) 8 _ rfl) Try.underlying22 rfl
 ·intro vals w1 hB _ hd
  clear hd
  refine one_value_g (v := Value.int .i64 ((qN : Int))) (by kernel_rfl) ?_ (post_is rfl)
  kernel_rfl
 ·intro vals w1 hB _ hd
  clear hd
  refine one_value_g (v := Value.bool true) (by kernel_rfl) ?_ (post_is rfl)
  exact Eq.trans (b := .ok (.value (.bool (((qN : Int)) == ((qN : Int))))) w1) (by kernel_rfl) (by rw [hqq])
 ·intro vals w1 hB _ hd
  clear hd
  refine one_value (v := Value.bool true) rfl ?_ (post_is rfl)
  kernel_rfl
 ·intro vals w1 hB _ hd
  clear hd
  refine one_value (v := Value.bool true) rfl ?_ (post_is rfl)
  kernel_rfl
 ·intro vals w1 hB _ hd
  clear hd
  refine one_calls_g (f := 31) (args := #[]) (w1 := w1) (by kernel_rfl) (by kernel_rfl) ?_
  refine (awake16 w1).mono ?_
  rintro e1 w3 ⟨rfl, hb⟩
  exact ⟨_, rfl, post_draws rfl hb⟩
 ·intro vals w1 hB _ hd
  clear hd
  refine one_value (v := Value.bool true) rfl ?_ (post_is rfl)
  kernel_rfl
 ·intro vals w1 hB _ hd
  clear hd
  refine one_value (v := Value.bool true) rfl ?_ (post_is rfl)
  kernel_rfl
 intro vals w15 b15 _ hr
 clear hr
 simp only [fillT, Tell.is, Tell.draws, Tell.makes, Act.put, List.setIfInBounds_toArray, List.set_cons_zero, List.set_cons_succ]
 exact hQ _ _ _ _ _ _ _ _ _ _ _ _ _ _ _ _ _ _ _ _ _ _ _ _ _ _ _ _ _ _ _ w15 b15
end Go.Proofs.Ytchldbkjapnlcaa
end
