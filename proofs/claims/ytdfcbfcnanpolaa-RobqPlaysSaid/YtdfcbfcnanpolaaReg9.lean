/- The regions of RobqPlays that draw their order, each shown apart. -/
import Derived.Test.YtdfcbfcnanpolaaAny
import Derived.Test.YtdfcbfcnanpolaaAwa9
import Derived.Test.YtdfcbfcnanpolaaRgg
import Derived.Lib.MinMax
namespace Go.Proofs.Ytdfcbfcnanpolaa
open Go.RowKit

def findRegion (id : Nat) : Code → Option Code
  | .region i ops d => if i = id then some (.region i ops d) else none
  | .seq a b => match findRegion id a with
    | some c => some c
    | none => findRegion id b
  | .cond _ a b => match findRegion id a with
    | some c => some c
    | none => findRegion id b
  | .block _ c => findRegion id c
  | .loop c => findRegion id c
  | .scope c => findRegion id c
  | _ => none
noncomputable def reg (id : Nat) : Code := (Try.f6.body.bind (findRegion id)).getD .skip
theorem same_ents_at (A A' : Option Addr) (n n' c c' : Nat) (l m : List Ent) (w : World) (hl : l.length = n) (hm : m.length = n') (hr : RdE w A l) (hr' : RdE w A' m) (hc : l.length ≤ 1000000) :
    Calls Try.prog 18 #[.slice A n c, .slice A' n' c'] w fun en w' => en = .returned (.bool (decide (l = m))) ∧ Below w.heap.size w w' := by
  subst hl hm
  exact same_ents A A' c c' l m w hr hr' hc
theorem RdE.load {w : World} {A : Option Addr} {l : List Ent} (h : RdE w A l) {k : Nat} (hk : k < l.length) :
    ∃ b o, A = some ⟨b, o, none⟩ ∧ b < w.heap.size ∧ ∀ j u, l[k].cs[j]? = some u → w.cell? ⟨b, o + k * 8 + j, none⟩ = some u := by
  obtain ⟨b, o, e, hb, hc⟩ := Reads.cells h hk
  refine ⟨b, o, e, hb, fun j u hu => ?_⟩
  have hj : j < 8 := (List.getElem?_eq_some_iff.1 hu).1
  rw [Nat.add_assoc]
  exact hc j u hj (by rw [entCs_get l k hk j hj]; exact hu)
theorem RdE.to_min {w : World} {A : Option Addr} {l : List Ent} (h : RdE w A l) (k : Nat) : RdE w A (l.take k) := by
  rcases Nat.le_total k l.length with hk | hk
  · exact h.to hk
  · rw [List.take_of_length_le hk]; exact h

set_option maxRecDepth 100000 in
set_option maxHeartbeats 4000000 in
theorem r11t {z1 z3 z4 z6 z7 z8 z9 z10 z13 z14 z15 z16 z17 z18 z19 z20 z21 z22 z23 z24 z25 z26 z27 z28 z29 z30 z31 z32 z33 z34 z35 z36 z37 z38 z39 z40 z41 z42 z43 z44 z45 z46 z47 z48 z49 z50 z51 z52 z53 z54 z55 z56 z57 z58 z59 z60 z61 z62 z63 z64 z65 z66 z67 z68 z69 z70 z71 z72 z73 z74 z75 z76 z77 z78 z79 z80 z81 z82 z83 z84 z85 z86 z87 z88 z89 z90 z91 z92 z93 z94 z95 z96 z97 z98 z99 z100 z101 z102 z103 z104 z105 z106 z107 z108 z109 z110 z111 z112 z113 z114 z115 z116 z117 z118 z119 z120 z121 z122 z123 z124 z125 z126 z127 z128 z129 z130 z131 z132 z133 z134 z135 z136 z137 z138 z139 z140 z141 z142 z143 z144 z145 z146 z147 z148 z149 z150 z151 z152 z153 z154 z155 z156 z157 z158 z159 z160 z161 z162 z163 z164 z165 z166 z167 z168 z169 z170 z171 z172 z173 z174 z175 z176 z177 z178 z179 z180 z181 z182 z183 z184 z185 z186 z187 z188 z189 z190 z191 z192 z193 z194 z195 z196 z197 z198 z199 : Value} (w w5 : World) (A : Option Addr) (c c2 b o : Nat) (l : List Ent) (e : Ent) (mo : Int) (h40 : ¬ 40 < l.length) (HMO : Kept (decide ((l.length : Int) < mo) = true)) (HRC : Kept (RdE w5 (some ⟨b, o, none⟩) l)) (R5 : Kept (RdE w5 A l))
    (X5 : Kept (w5.heap[w.heap.size]? = some (.cells e.cs.toArray 27 (0, 0)))) (HSZ : Kept (w.heap.size < w5.heap.size)) (hb0 : b < w5.heap.size) (hcl : ∀ j u, e.cs[j]? = some u → w5.cell? ⟨b, o + l.length * 8 + j, none⟩ = some u)
    (hcut : ∀ w1, (Instr.slice 23 (.slice (some ⟨b, o, none⟩) (l.length + 1) c2) none (some (.int .i64 (l.length : Int))) none).run Try.prog w1 = .ok (.slice (some ⟨b, o, none⟩) l.length c2) w1) (Q : Exit → Act → World → Prop)
    (hQ : ∀ (u54 u55 u56 u57 u58 u59 u60 u61 u62 u63 u64 u65 u66 u67 u68 u69 u70 u71 u72 u73 u74 u75 u76 u77 u78 u79 u80 u81 u82 u83 u84 u85 u86 u87 u88 u89 u90 u91 u92 u93 u94 u95 u96 : Value) (w' : World), Below w5.heap.size w5 w' → Q .normal ⟨#[.slice A l.length c, z1, .int .i64 mo, z3, z4, .pointer (some ⟨w.heap.size, 0, none⟩), z6, z7, z8, z9, z10, .slice (some ⟨b, o, none⟩) (l.length + 1) c2, .bool true, z13, z14, z15, z16, z17, z18, z19, z20, z21, z22, z23, z24, z25, z26, z27, z28, z29, z30, z31, z32, z33, z34, z35, z36, z37, z38, z39, z40, z41, z42, z43, z44, z45, z46, z47, z48, z49, z50, z51, z52, z53, u54, u55, u56, u57, u58, u59, u60, u61, u62, u63, u64, u65, u66, u67, u68, u69, u70, u71, u72, u73, u74, u75, u76, u77, u78, u79, u80, u81, u82, u83, u84, u85, u86, u87, u88, u89, u90, u91, u92, u93, u94, u95, u96, .bool false, z98, z99, z100, z101, z102, z103, z104, z105, z106, z107, z108, z109, z110, z111, z112, z113, z114, z115, z116, z117, z118, z119, z120, z121, z122, z123, z124, z125, z126, z127, z128, z129, z130, z131, z132, z133, z134, z135, z136, z137, z138, z139, z140, z141, z142, z143, z144, z145, z146, z147, z148, z149, z150, z151, z152, z153, z154, z155, z156, z157, z158, z159, z160, z161, z162, z163, z164, z165, z166, z167, z168, z169, z170, z171, z172, z173, z174, z175, z176, z177, z178, z179, z180, z181, z182, z183, z184, z185, z186, z187, z188, z189, z190, z191, z192, z193, z194, z195, z196, z197, z198, z199], []⟩ w') :
    Code.wp Try.prog (reg 11) Q ⟨#[.slice A l.length c, z1, .int .i64 mo, z3, z4, .pointer (some ⟨w.heap.size, 0, none⟩), z6, z7, z8, z9, z10, .slice (some ⟨b, o, none⟩) (l.length + 1) c2, .bool true, z13, z14, z15, z16, z17, z18, z19, z20, z21, z22, z23, z24, z25, z26, z27, z28, z29, z30, z31, z32, z33, z34, z35, z36, z37, z38, z39, z40, z41, z42, z43, z44, z45, z46, z47, z48, z49, z50, z51, z52, z53, z54, z55, z56, z57, z58, z59, z60, z61, z62, z63, z64, z65, z66, z67, z68, z69, z70, z71, z72, z73, z74, z75, z76, z77, z78, z79, z80, z81, z82, z83, z84, z85, z86, z87, z88, z89, z90, z91, z92, z93, z94, z95, z96, z97, z98, z99, z100, z101, z102, z103, z104, z105, z106, z107, z108, z109, z110, z111, z112, z113, z114, z115, z116, z117, z118, z119, z120, z121, z122, z123, z124, z125, z126, z127, z128, z129, z130, z131, z132, z133, z134, z135, z136, z137, z138, z139, z140, z141, z142, z143, z144, z145, z146, z147, z148, z149, z150, z151, z152, z153, z154, z155, z156, z157, z158, z159, z160, z161, z162, z163, z164, z165, z166, z167, z168, z169, z170, z171, z172, z173, z174, z175, z176, z177, z178, z179, z180, z181, z182, z183, z184, z185, z186, z187, z188, z189, z190, z191, z192, z193, z194, z195, z196, z197, z198, z199], []⟩ w5 := by
  conv => arg 2; whnf
  have hne := fun w => run_neq_ent e e w
  simp only [decide_true, Bool.not_true] at hne
  refine region_tell (w5.heap.size) (G := fun _ => True) (ts := [
      .is (.bool true),
      .is (.slice A l.length c),
      .is (.int .i64 (l.length : Int)),
      .is (.int .i64 mo),
      .is (.bool true),
      .is (.bool false),
      .is (.bool false),
      .is (.bool true),
      .is (.bool true),
      .is (.slice (some ⟨b, o, none⟩) (l.length + 1) c2),
      .is (.int .i64 ((l.length : Int) + 1)),
      .is (.slice A l.length c),
      .is (.int .i64 (l.length : Int)),
      .is (.int .i64 ((l.length : Int) + 1)),
      .is (.bool false),
      .is (.bool false),
      .is (.slice (some ⟨b, o, none⟩) (l.length + 1) c2),
      .is (.slice A l.length c),
      .is (.int .i64 (l.length : Int)),
      .is (.pointer (some ⟨b, o + l.length * 8, none⟩)),
      .is (e.v),
      .is (e.v),
      .is (.bool false),
      .is (.bool false),
      .is (.bool false),
      .is (.slice (some ⟨b, o, none⟩) (l.length + 1) c2),
      .is (.slice A l.length c),
      .is (.int .i64 (l.length : Int)),
      .is (.slice (some ⟨b, o, none⟩) l.length c2),
      .is (.slice A l.length c),
      .draws (.bool true),
      .is (.bool false),
      .is (.bool false),
      .is (.bool false),
      .is (.bool false),
      .is (.bool false),
      .is (.bool true),
      .is (.bool false),
      .is (.bool false),
      .is (undef),
      .is (undef),
      .is (undef),
      .is (.bool false),
      .is (.bool false)]) (fin := []) (cs := []) (by kernel_rfl) rfl (by kernel_rfl) (by kernel_rfl) ⟨trivial, trivial, trivial, trivial, trivial, trivial, trivial, trivial, trivial, trivial, trivial, trivial, trivial, trivial, trivial, trivial, trivial, trivial, trivial, trivial, trivial, trivial, trivial, trivial, trivial, trivial, trivial, trivial, trivial, trivial, trivial, trivial, trivial, trivial, trivial, trivial, trivial, trivial, trivial, trivial, trivial, trivial, trivial, trivial, trivial⟩ (fun _ _ _ _ => trivial) (by simp) (by simp) trivial
    ⟨?_, ?_, ?_, ?_, ?_, ?_, ?_, ?_, ?_, ?_, ?_, ?_, ?_, ?_, ?_, ?_, ?_, ?_, ?_, ?_, ?_, ?_, ?_, ?_, ?_, ?_, ?_, ?_, ?_, ?_, ?_, ?_, ?_, ?_, ?_, ?_, ?_, ?_, ?_, ?_, ?_, ?_, ?_, ?_, trivial⟩ ?_
  · intro vals w1 hB _ hd
    clear hd
    refine one_value (v := Value.bool true) rfl ?_ (post_is rfl)
    kernel_rfl
  · intro vals w1 hB _ hd
    clear hd
    refine one_value (v := Value.slice A l.length c) rfl ?_ (post_is rfl)
    kernel_rfl
  · intro vals w1 hB _ hd
    clear hd
    refine one_value (v := Value.int .i64 (l.length : Int)) rfl ?_ (post_is rfl)
    kernel_rfl
  · intro vals w1 hB _ hd
    clear hd
    refine one_value (v := Value.int .i64 mo) rfl ?_ (post_is rfl)
    kernel_rfl
  · intro vals w1 hB _ hd
    clear hd
    refine one_value (v := Value.bool true) rfl ?_ (post_is rfl)
    have hm := HMO.out; refine Eq.trans (b := (execOp (Act.eval ⟨#[], []⟩) { dst := none, op := Op.binOp BinOp.lss 3 (.const (Value.int .i64 (l.length : Int))) (.const (Value.int .i64 mo)) 3, type := 0, pos := "x", after := #[], guard := none }).run Try.prog w1) (by kernel_rfl) ?_; go_simp
  · intro vals w1 hB _ hd
    clear hd
    refine one_value (v := Value.bool false) rfl ?_ (post_is rfl)
    kernel_rfl
  · intro vals w1 hB _ hd
    clear hd
    refine one_value (v := Value.bool false) rfl ?_ (post_is rfl)
    kernel_rfl
  · intro vals w1 hB _ hd
    clear hd
    refine one_value_g (v := Value.bool true) (by kernel_rfl) ?_ (post_is rfl)
    kernel_rfl
  · intro vals w1 hB _ hd
    clear hd
    refine one_value_g (v := Value.bool true) (by kernel_rfl) ?_ (post_is rfl)
    kernel_rfl
  · intro vals w1 hB _ hd
    clear hd
    refine one_value_g (v := Value.slice (some ⟨b, o, none⟩) (l.length + 1) c2) (by kernel_rfl) ?_ (post_is rfl)
    kernel_rfl
  · intro vals w1 hB _ hd
    clear hd
    refine one_value_g (v := Value.int .i64 ((l.length : Int) + 1)) (by kernel_rfl) ?_ (post_is rfl)
    kernel_rfl
  · intro vals w1 hB _ hd
    clear hd
    refine one_value_g (v := Value.slice A l.length c) (by kernel_rfl) ?_ (post_is rfl)
    kernel_rfl
  · intro vals w1 hB _ hd
    clear hd
    refine one_value_g (v := Value.int .i64 (l.length : Int)) (by kernel_rfl) ?_ (post_is rfl)
    kernel_rfl
  · intro vals w1 hB _ hd
    clear hd
    refine one_value_g (v := Value.int .i64 ((l.length : Int) + 1)) (by kernel_rfl) ?_ (post_is rfl)
    refine Eq.trans (b := (execOp (Act.eval ⟨#[], []⟩) { dst := none, op := Op.binOp BinOp.add 3 (.const (Value.int .i64 (l.length : Int))) (.const (Value.int IntKind.i64 (1))) 3, type := 0, pos := "x", after := #[], guard := none }).run Try.prog w1) (by kernel_rfl) ?_; go_simp; exact IntWalk.i64_in _ (by omega)
  · intro vals w1 hB _ hd
    clear hd
    refine one_value_g (v := Value.bool false) (by kernel_rfl) ?_ (post_is rfl)
    refine Eq.trans (b := (execOp (Act.eval ⟨#[], []⟩) { dst := none, op := Op.binOp BinOp.neq 3 (.const (Value.int .i64 ((l.length : Int) + 1))) (.const (Value.int .i64 ((l.length : Int) + 1))) 3, type := 0, pos := "x", after := #[], guard := none }).run Try.prog w1) (by kernel_rfl) ?_; go_simp
  · intro vals w1 hB _ hd
    clear hd
    refine one_value_g (v := Value.bool false) (by kernel_rfl) ?_ (post_is rfl)
    kernel_rfl
  · intro vals w1 hB _ hd
    clear hd
    refine one_value_g (v := Value.slice (some ⟨b, o, none⟩) (l.length + 1) c2) (by kernel_rfl) ?_ (post_is rfl)
    kernel_rfl
  · intro vals w1 hB _ hd
    clear hd
    refine one_value_g (v := Value.slice A l.length c) (by kernel_rfl) ?_ (post_is rfl)
    kernel_rfl
  · intro vals w1 hB _ hd
    clear hd
    refine one_value_g (v := Value.int .i64 (l.length : Int)) (by kernel_rfl) ?_ (post_is rfl)
    kernel_rfl
  · intro vals w1 hB _ hd
    clear hd
    refine one_value_g (v := Value.pointer (some ⟨b, o + l.length * 8, none⟩)) (by kernel_rfl) ?_ (post_is rfl)
    refine Eq.trans (b := (execOp (Act.eval ⟨#[], []⟩) { dst := none, op := Op.indexAddr 23 (.const (Value.slice (some ⟨b, o, none⟩) (l.length + 1) c2)) (.const (Value.int .i64 (l.length : Int))), type := 0, pos := "x", after := #[], guard := none }).run Try.prog w1) (by kernel_rfl) ?_; go_simp; try (intro h; omega)
  · intro vals w1 hB _ hd
    clear hd
    refine one_value_g (v := e.v) (by kernel_rfl) ?_ (post_is rfl)
    exact exec_load_row rfl (b := b) (off := o + l.length * 8) (by kernel_rfl) e.cs (fun j u hu => (hB.cell (p := ⟨b, o + l.length * 8 + j, none⟩) hb0).trans (hcl j u hu)) Try.underlying27 rfl (by kernel_rfl)
  · intro vals w1 hB _ hd
    clear hd
    refine one_value_g (v := e.v) (by kernel_rfl) ?_ (post_is rfl)
    exact exec_load_row rfl (b := w.heap.size) (off := 0) (by kernel_rfl) e.cs (fun j u hu => cells_of_block ((hB.block _ HSZ.out).trans X5.out) j u hu) Try.underlying27 rfl (by kernel_rfl)
  · intro vals w1 hB _ hd
    clear hd
    refine one_value_g (v := Value.bool false) (by kernel_rfl) ?_ (post_is rfl)
    have hn := hne w1; refine Eq.trans (b := (execOp (Act.eval ⟨#[], []⟩) { dst := none, op := Op.binOp BinOp.neq 27 (.const (e.v)) (.const (e.v)) 27, type := 0, pos := "x", after := #[], guard := none }).run Try.prog w1) (by kernel_rfl) ?_; go_simp
  · intro vals w1 hB _ hd
    clear hd
    refine one_value_g (v := Value.bool false) (by kernel_rfl) ?_ (post_is rfl)
    kernel_rfl
  · intro vals w1 hB _ hd
    clear hd
    refine one_value_g (v := Value.bool false) (by kernel_rfl) ?_ (post_is rfl)
    kernel_rfl
  · intro vals w1 hB _ hd
    clear hd
    refine one_value_g (v := Value.slice (some ⟨b, o, none⟩) (l.length + 1) c2) (by kernel_rfl) ?_ (post_is rfl)
    kernel_rfl
  · intro vals w1 hB _ hd
    clear hd
    refine one_value_g (v := Value.slice A l.length c) (by kernel_rfl) ?_ (post_is rfl)
    kernel_rfl
  · intro vals w1 hB _ hd
    clear hd
    refine one_value_g (v := Value.int .i64 (l.length : Int)) (by kernel_rfl) ?_ (post_is rfl)
    kernel_rfl
  · intro vals w1 hB _ hd
    clear hd
    refine one_value_g (v := Value.slice (some ⟨b, o, none⟩) l.length c2) (by kernel_rfl) ?_ (post_is rfl)
    have hc := hcut w1; refine Eq.trans (b := (execOp (Act.eval ⟨#[], []⟩) { dst := none, op := Op.slice 23 (.const (Value.slice (some ⟨b, o, none⟩) (l.length + 1) c2)) none (some (.const (Value.int .i64 (l.length : Int)))) none, type := 0, pos := "x", after := #[], guard := none }).run Try.prog w1) (by kernel_rfl) ?_; go_simp
  · intro vals w1 hB _ hd
    clear hd
    refine one_value_g (v := Value.slice A l.length c) (by kernel_rfl) ?_ (post_is rfl)
    kernel_rfl
  · intro vals w1 hB _ hd
    clear hd
    refine one_calls_g (f := 18) (args := #[.slice (some ⟨b, o, none⟩) l.length c2, .slice A l.length c]) (w1 := w1) (by kernel_rfl) ?_ ?_
    · kernel_rfl
    refine (same_ents (some ⟨b, o, none⟩) A c2 c l l w1 (HRC.out.past hB) (R5.out.past hB) (by omega)).mono ?_
    rintro e1 w2 ⟨rfl, h2⟩
    rw [decide_eq_true rfl]
    exact ⟨_, rfl, post_draws rfl h2⟩
  · intro vals w1 hB _ hd
    clear hd
    refine one_value_g (v := Value.bool false) (by kernel_rfl) ?_ (post_is rfl)
    kernel_rfl
  · intro vals w1 hB _ hd
    clear hd
    refine one_value_g (v := Value.bool false) (by kernel_rfl) ?_ (post_is rfl)
    kernel_rfl
  · intro vals w1 hB _ hd
    clear hd
    refine one_value_g (v := Value.bool false) (by kernel_rfl) ?_ (post_is rfl)
    kernel_rfl
  · intro vals w1 hB _ hd
    clear hd
    refine one_value (v := Value.bool false) rfl ?_ (post_is rfl)
    kernel_rfl
  · intro vals w1 hB _ hd
    clear hd
    refine one_value (v := Value.bool false) rfl ?_ (post_is rfl)
    kernel_rfl
  · intro vals w1 hB _ hd
    clear hd
    refine one_value_g (v := Value.bool true) (by kernel_rfl) ?_ (post_is rfl)
    kernel_rfl
  · intro vals w1 hB _ hd
    clear hd
    refine one_value_g (v := Value.bool false) (by kernel_rfl) ?_ (post_is rfl)
    kernel_rfl
  · intro vals w1 hB _ hd
    clear hd
    refine one_value_g (v := Value.bool false) (by kernel_rfl) ?_ (post_is rfl)
    kernel_rfl
  · intro vals w1 hB _ hd
    clear hd
    exact one_not (by kernel_rfl) (post_is rfl)
  · intro vals w1 hB _ hd
    clear hd
    exact one_not (by kernel_rfl) (post_is rfl)
  · intro vals w1 hB _ hd
    clear hd
    exact one_not (by kernel_rfl) (post_is rfl)
  · intro vals w1 hB _ hd
    clear hd
    refine one_value_g (v := Value.bool false) (by kernel_rfl) ?_ (post_is rfl)
    kernel_rfl
  · intro vals w1 hB _ hd
    clear hd
    refine one_value (v := Value.bool false) rfl ?_ (post_is rfl)
    kernel_rfl
  intro vals w1 hB _ hr
  simp only [fillT, Tell.is, Tell.draws, Act.put, List.setIfInBounds_toArray, List.set_cons_zero, List.set_cons_succ]
  exact hQ _ _ _ _ _ _ _ _ _ _ _ _ _ _ _ _ _ _ _ _ _ _ _ _ _ _ _ _ _ _ _ _ _ _ _ _ _ _ _ _ _ _ _ w1 hB
set_option maxRecDepth 100000 in
set_option maxHeartbeats 4000000 in
theorem r11f {z1 z3 z4 z5 z6 z7 z8 z9 z10 z13 z14 z15 z16 z17 z18 z19 z20 z21 z22 z23 z24 z25 z26 z27 z28 z29 z30 z31 z32 z33 z34 z35 z36 z37 z38 z39 z40 z41 z42 z43 z44 z45 z46 z47 z48 z49 z50 z51 z52 z53 z54 z55 z56 z57 z58 z59 z60 z61 z62 z63 z64 z65 z66 z67 z68 z69 z70 z71 z72 z73 z74 z75 z76 z77 z78 z79 z80 z81 z82 z83 z84 z85 z86 z87 z88 z89 z90 z91 z92 z93 z94 z95 z96 z97 z98 z99 z100 z101 z102 z103 z104 z105 z106 z107 z108 z109 z110 z111 z112 z113 z114 z115 z116 z117 z118 z119 z120 z121 z122 z123 z124 z125 z126 z127 z128 z129 z130 z131 z132 z133 z134 z135 z136 z137 z138 z139 z140 z141 z142 z143 z144 z145 z146 z147 z148 z149 z150 z151 z152 z153 z154 z155 z156 z157 z158 z159 z160 z161 z162 z163 z164 z165 z166 z167 z168 z169 z170 z171 z172 z173 z174 z175 z176 z177 z178 z179 z180 z181 z182 z183 z184 z185 z186 z187 z188 z189 z190 z191 z192 z193 z194 z195 z196 z197 z198 z199 : Value} (w5 : World) (A A2 : Option Addr) (c c2 : Nat) (l : List Ent) (mo : Int) (HMO : Kept (decide ((l.length : Int) < mo) = false)) (Q : Exit → Act → World → Prop)
    (hQ : ∀ (u54 u55 u56 u57 u58 u59 u60 u61 u62 u63 u64 u65 u66 u67 u68 u69 u70 u71 u72 u73 u74 u75 u76 u77 u78 u79 u80 u81 u82 u83 u84 u85 u86 u87 u88 u89 u90 u91 u92 u93 u94 u95 u96 : Value) (w' : World), Below w5.heap.size w5 w' → Q .normal ⟨#[.slice A l.length c, z1, .int .i64 mo, z3, z4, z5, z6, z7, z8, z9, z10, .slice A2 0 c2, .bool false, z13, z14, z15, z16, z17, z18, z19, z20, z21, z22, z23, z24, z25, z26, z27, z28, z29, z30, z31, z32, z33, z34, z35, z36, z37, z38, z39, z40, z41, z42, z43, z44, z45, z46, z47, z48, z49, z50, z51, z52, z53, u54, u55, u56, u57, u58, u59, u60, u61, u62, u63, u64, u65, u66, u67, u68, u69, u70, u71, u72, u73, u74, u75, u76, u77, u78, u79, u80, u81, u82, u83, u84, u85, u86, u87, u88, u89, u90, u91, u92, u93, u94, u95, u96, .bool false, z98, z99, z100, z101, z102, z103, z104, z105, z106, z107, z108, z109, z110, z111, z112, z113, z114, z115, z116, z117, z118, z119, z120, z121, z122, z123, z124, z125, z126, z127, z128, z129, z130, z131, z132, z133, z134, z135, z136, z137, z138, z139, z140, z141, z142, z143, z144, z145, z146, z147, z148, z149, z150, z151, z152, z153, z154, z155, z156, z157, z158, z159, z160, z161, z162, z163, z164, z165, z166, z167, z168, z169, z170, z171, z172, z173, z174, z175, z176, z177, z178, z179, z180, z181, z182, z183, z184, z185, z186, z187, z188, z189, z190, z191, z192, z193, z194, z195, z196, z197, z198, z199], []⟩ w') :
    Code.wp Try.prog (reg 11) Q ⟨#[.slice A l.length c, z1, .int .i64 mo, z3, z4, z5, z6, z7, z8, z9, z10, .slice A2 0 c2, .bool false, z13, z14, z15, z16, z17, z18, z19, z20, z21, z22, z23, z24, z25, z26, z27, z28, z29, z30, z31, z32, z33, z34, z35, z36, z37, z38, z39, z40, z41, z42, z43, z44, z45, z46, z47, z48, z49, z50, z51, z52, z53, z54, z55, z56, z57, z58, z59, z60, z61, z62, z63, z64, z65, z66, z67, z68, z69, z70, z71, z72, z73, z74, z75, z76, z77, z78, z79, z80, z81, z82, z83, z84, z85, z86, z87, z88, z89, z90, z91, z92, z93, z94, z95, z96, z97, z98, z99, z100, z101, z102, z103, z104, z105, z106, z107, z108, z109, z110, z111, z112, z113, z114, z115, z116, z117, z118, z119, z120, z121, z122, z123, z124, z125, z126, z127, z128, z129, z130, z131, z132, z133, z134, z135, z136, z137, z138, z139, z140, z141, z142, z143, z144, z145, z146, z147, z148, z149, z150, z151, z152, z153, z154, z155, z156, z157, z158, z159, z160, z161, z162, z163, z164, z165, z166, z167, z168, z169, z170, z171, z172, z173, z174, z175, z176, z177, z178, z179, z180, z181, z182, z183, z184, z185, z186, z187, z188, z189, z190, z191, z192, z193, z194, z195, z196, z197, z198, z199], []⟩ w5 := by
  conv => arg 2; whnf
  refine region_tell (w5.heap.size) (G := fun _ => True) (ts := [
      .is (.bool false),
      .is (.slice A l.length c),
      .is (.int .i64 (l.length : Int)),
      .is (.int .i64 mo),
      .is (.bool false),
      .is (.bool false),
      .is (.bool false),
      .is (.bool false),
      .is (.bool false),
      .is (undef),
      .is (undef),
      .is (undef),
      .is (undef),
      .is (undef),
      .is (undef),
      .is (undef),
      .is (undef),
      .is (undef),
      .is (undef),
      .is (undef),
      .is (undef),
      .is (undef),
      .is (undef),
      .is (undef),
      .is (undef),
      .is (undef),
      .is (undef),
      .is (undef),
      .is (undef),
      .is (undef),
      .is (undef),
      .is (undef),
      .is (undef),
      .is (.bool false),
      .is (.bool false),
      .is (.bool false),
      .is (.bool false),
      .is (.bool true),
      .is (.bool true),
      .is (.slice A2 0 c2),
      .is (.int .i64 0),
      .is (.bool false),
      .is (.bool false),
      .is (.bool false)]) (fin := []) (cs := []) (by kernel_rfl) rfl (by kernel_rfl) (by kernel_rfl) ⟨trivial, trivial, trivial, trivial, trivial, trivial, trivial, trivial, trivial, trivial, trivial, trivial, trivial, trivial, trivial, trivial, trivial, trivial, trivial, trivial, trivial, trivial, trivial, trivial, trivial, trivial, trivial, trivial, trivial, trivial, trivial, trivial, trivial, trivial, trivial, trivial, trivial, trivial, trivial, trivial, trivial, trivial, trivial, trivial, trivial⟩ (fun _ _ _ _ => trivial) (by simp) (by simp) trivial
    ⟨?_, ?_, ?_, ?_, ?_, ?_, ?_, ?_, ?_, ?_, ?_, ?_, ?_, ?_, ?_, ?_, ?_, ?_, ?_, ?_, ?_, ?_, ?_, ?_, ?_, ?_, ?_, ?_, ?_, ?_, ?_, ?_, ?_, ?_, ?_, ?_, ?_, ?_, ?_, ?_, ?_, ?_, ?_, ?_, trivial⟩ ?_
  · intro vals w1 hB _ hd
    clear hd
    refine one_value (v := Value.bool false) rfl ?_ (post_is rfl)
    kernel_rfl
  · intro vals w1 hB _ hd
    clear hd
    refine one_value (v := Value.slice A l.length c) rfl ?_ (post_is rfl)
    kernel_rfl
  · intro vals w1 hB _ hd
    clear hd
    refine one_value (v := Value.int .i64 (l.length : Int)) rfl ?_ (post_is rfl)
    kernel_rfl
  · intro vals w1 hB _ hd
    clear hd
    refine one_value (v := Value.int .i64 mo) rfl ?_ (post_is rfl)
    kernel_rfl
  · intro vals w1 hB _ hd
    clear hd
    refine one_value (v := Value.bool false) rfl ?_ (post_is rfl)
    have hm := HMO.out; refine Eq.trans (b := (execOp (Act.eval ⟨#[], []⟩) { dst := none, op := Op.binOp BinOp.lss 3 (.const (Value.int .i64 (l.length : Int))) (.const (Value.int .i64 mo)) 3, type := 0, pos := "x", after := #[], guard := none }).run Try.prog w1) (by kernel_rfl) ?_; go_simp
  · intro vals w1 hB _ hd
    clear hd
    refine one_value (v := Value.bool false) rfl ?_ (post_is rfl)
    kernel_rfl
  · intro vals w1 hB _ hd
    clear hd
    refine one_value (v := Value.bool false) rfl ?_ (post_is rfl)
    kernel_rfl
  · intro vals w1 hB _ hd
    clear hd
    refine one_value_g (v := Value.bool false) (by kernel_rfl) ?_ (post_is rfl)
    kernel_rfl
  · intro vals w1 hB _ hd
    clear hd
    refine one_value_g (v := Value.bool false) (by kernel_rfl) ?_ (post_is rfl)
    kernel_rfl
  · intro vals w1 hB _ hd
    clear hd
    exact one_not (by kernel_rfl) (post_is rfl)
  · intro vals w1 hB _ hd
    clear hd
    exact one_not (by kernel_rfl) (post_is rfl)
  · intro vals w1 hB _ hd
    clear hd
    exact one_not (by kernel_rfl) (post_is rfl)
  · intro vals w1 hB _ hd
    clear hd
    exact one_not (by kernel_rfl) (post_is rfl)
  · intro vals w1 hB _ hd
    clear hd
    exact one_not (by kernel_rfl) (post_is rfl)
  · intro vals w1 hB _ hd
    clear hd
    exact one_not (by kernel_rfl) (post_is rfl)
  · intro vals w1 hB _ hd
    clear hd
    exact one_not (by kernel_rfl) (post_is rfl)
  · intro vals w1 hB _ hd
    clear hd
    exact one_not (by kernel_rfl) (post_is rfl)
  · intro vals w1 hB _ hd
    clear hd
    exact one_not (by kernel_rfl) (post_is rfl)
  · intro vals w1 hB _ hd
    clear hd
    exact one_not (by kernel_rfl) (post_is rfl)
  · intro vals w1 hB _ hd
    clear hd
    exact one_not (by kernel_rfl) (post_is rfl)
  · intro vals w1 hB _ hd
    clear hd
    exact one_not (by kernel_rfl) (post_is rfl)
  · intro vals w1 hB _ hd
    clear hd
    exact one_not (by kernel_rfl) (post_is rfl)
  · intro vals w1 hB _ hd
    clear hd
    exact one_not (by kernel_rfl) (post_is rfl)
  · intro vals w1 hB _ hd
    clear hd
    exact one_not (by kernel_rfl) (post_is rfl)
  · intro vals w1 hB _ hd
    clear hd
    exact one_not (by kernel_rfl) (post_is rfl)
  · intro vals w1 hB _ hd
    clear hd
    exact one_not (by kernel_rfl) (post_is rfl)
  · intro vals w1 hB _ hd
    clear hd
    exact one_not (by kernel_rfl) (post_is rfl)
  · intro vals w1 hB _ hd
    clear hd
    exact one_not (by kernel_rfl) (post_is rfl)
  · intro vals w1 hB _ hd
    clear hd
    exact one_not (by kernel_rfl) (post_is rfl)
  · intro vals w1 hB _ hd
    clear hd
    exact one_not (by kernel_rfl) (post_is rfl)
  · intro vals w1 hB _ hd
    clear hd
    exact one_not (by kernel_rfl) (post_is rfl)
  · intro vals w1 hB _ hd
    clear hd
    exact one_not (by kernel_rfl) (post_is rfl)
  · intro vals w1 hB _ hd
    clear hd
    exact one_not (by kernel_rfl) (post_is rfl)
  · intro vals w1 hB _ hd
    clear hd
    refine one_value_g (v := Value.bool false) (by kernel_rfl) ?_ (post_is rfl)
    kernel_rfl
  · intro vals w1 hB _ hd
    clear hd
    refine one_value (v := Value.bool false) rfl ?_ (post_is rfl)
    kernel_rfl
  · intro vals w1 hB _ hd
    clear hd
    refine one_value (v := Value.bool false) rfl ?_ (post_is rfl)
    kernel_rfl
  · intro vals w1 hB _ hd
    clear hd
    refine one_value_g (v := Value.bool false) (by kernel_rfl) ?_ (post_is rfl)
    kernel_rfl
  · intro vals w1 hB _ hd
    clear hd
    refine one_value_g (v := Value.bool true) (by kernel_rfl) ?_ (post_is rfl)
    kernel_rfl
  · intro vals w1 hB _ hd
    clear hd
    refine one_value_g (v := Value.bool true) (by kernel_rfl) ?_ (post_is rfl)
    kernel_rfl
  · intro vals w1 hB _ hd
    clear hd
    refine one_value_g (v := Value.slice A2 0 c2) (by kernel_rfl) ?_ (post_is rfl)
    kernel_rfl
  · intro vals w1 hB _ hd
    clear hd
    refine one_value_g (v := Value.int .i64 0) (by kernel_rfl) ?_ (post_is rfl)
    kernel_rfl
  · intro vals w1 hB _ hd
    clear hd
    refine one_value_g (v := Value.bool false) (by kernel_rfl) ?_ (post_is rfl)
    refine Eq.trans (b := (execOp (Act.eval ⟨#[], []⟩) { dst := none, op := Op.binOp BinOp.neq 3 (.const (Value.int .i64 0)) (.const (Value.int IntKind.i64 (0))) 3, type := 0, pos := "x", after := #[], guard := none }).run Try.prog w1) (by kernel_rfl) ?_; go_simp
  · intro vals w1 hB _ hd
    clear hd
    refine one_value_g (v := Value.bool false) (by kernel_rfl) ?_ (post_is rfl)
    kernel_rfl
  · intro vals w1 hB _ hd
    clear hd
    refine one_value (v := Value.bool false) rfl ?_ (post_is rfl)
    kernel_rfl
  intro vals w1 hB _ hr
  simp only [fillT, Tell.is, Act.put, List.setIfInBounds_toArray, List.set_cons_zero, List.set_cons_succ]
  exact hQ _ _ _ _ _ _ _ _ _ _ _ _ _ _ _ _ _ _ _ _ _ _ _ _ _ _ _ _ _ _ _ _ _ _ _ _ _ _ _ _ _ _ _ w1 hB
set_option maxRecDepth 100000 in
set_option maxHeartbeats 4000000 in
theorem r13t {z1 z2 z4 z5 z6 z7 z8 z9 z10 z11 z12 z17 z18 z19 z20 z21 z22 z23 z24 z25 z26 z27 z28 z29 z30 z31 z32 z33 z34 z35 z36 z37 z38 z39 z40 z41 z42 z43 z44 z45 z46 z47 z48 z49 z50 z51 z52 z53 z54 z55 z56 z57 z58 z59 z60 z61 z62 z63 z64 z65 z66 z67 z68 z69 z70 z71 z72 z73 z74 z75 z76 z77 z78 z79 z80 z81 z82 z83 z84 z85 z86 z87 z88 z89 z90 z91 z92 z93 z94 z95 z96 z97 z98 z99 z100 z101 z102 z103 z104 z105 z106 z107 z108 z109 z110 z111 z112 z113 z114 z115 z116 z117 z118 z119 z120 z121 z122 z123 z124 z125 z126 z127 z128 z129 z130 z131 z132 z133 z134 z135 z136 z137 z138 z139 z140 z141 z142 z143 z144 z145 z146 z147 z148 z149 z150 z151 z152 z153 z154 z155 z156 z157 z158 z159 z160 z161 z162 z163 z164 z165 z166 z167 z168 z169 z170 z171 z172 z173 z174 z175 z176 z177 z178 z179 z180 z181 z182 z183 z184 z185 z186 z187 z188 z189 z190 z191 z192 z193 z194 z195 z196 z197 z198 z199 : Value} (w3 w6 : World) (A3 A4 : Option Addr) (c c3 c4 b o nk : Nat) (l : List Ent) (at_ : Int) (h40 : ¬ 40 < l.length) (hpos : 0 < l.length) (HMO : Kept (decide (0 < (l.length : Int)) = true)) (HMM : Kept (min (max at_ 0) (l.length : Int) = (nk : Int))) (Hnk : Kept ((l.take at_.toNat).length = nk))
    (HCUT : Kept (∀ w1, (Instr.slice 23 (.slice (some ⟨b, o, none⟩) l.length c) none (some (.int .i64 (nk : Int))) none).run Try.prog w1 = .ok (.slice (some ⟨b, o, none⟩) nk c) w1)) (HSM : Kept (Small l))
    (R6 : Kept (RdE w6 (some ⟨b, o, none⟩) l)) (PC6 : Kept (RdE w6 A4 (l.take at_.toNat))) (PR6 : Kept (RdE w6 A3 (popEnts l))) (D6 : Kept (w6.heap[w3.heap.size]? = some (.cells (l[0]'hpos).cs.toArray 27 (0, 0)))) (HS3 : Kept (w3.heap.size < w6.heap.size))
    (hb0 : b < w6.heap.size) (hcl : ∀ j u, (l[0]'hpos).cs[j]? = some u → w6.cell? ⟨b, o + j, none⟩ = some u) (Q : Exit → Act → World → Prop)
    (hQ : ∀ (u98 u99 u100 u101 u102 u103 u104 u105 u106 u107 u108 u109 u110 u111 u112 u113 u114 u115 u116 u117 u118 u119 u120 u121 u122 u123 u124 u125 u126 u127 u128 u129 u130 : Value) (w' : World), Below w6.heap.size w6 w' → Q .normal ⟨#[.slice (some ⟨b, o, none⟩) l.length c, z1, z2, .int .i64 at_, z4, z5, z6, z7, z8, z9, z10, z11, z12, .pointer (some ⟨w3.heap.size, 0, none⟩), .slice A3 (popEnts l).length c3, .bool true, .slice A4 nk c4, z17, z18, z19, z20, z21, z22, z23, z24, z25, z26, z27, z28, z29, z30, z31, z32, z33, z34, z35, z36, z37, z38, z39, z40, z41, z42, z43, z44, z45, z46, z47, z48, z49, z50, z51, z52, z53, z54, z55, z56, z57, z58, z59, z60, z61, z62, z63, z64, z65, z66, z67, z68, z69, z70, z71, z72, z73, z74, z75, z76, z77, z78, z79, z80, z81, z82, z83, z84, z85, z86, z87, z88, z89, z90, z91, z92, z93, z94, z95, z96, z97, u98, u99, u100, u101, u102, u103, u104, u105, u106, u107, u108, u109, u110, u111, u112, u113, u114, u115, u116, u117, u118, u119, u120, u121, u122, u123, u124, u125, u126, u127, u128, u129, u130, .bool false, z132, z133, z134, z135, z136, z137, z138, z139, z140, z141, z142, z143, z144, z145, z146, z147, z148, z149, z150, z151, z152, z153, z154, z155, z156, z157, z158, z159, z160, z161, z162, z163, z164, z165, z166, z167, z168, z169, z170, z171, z172, z173, z174, z175, z176, z177, z178, z179, z180, z181, z182, z183, z184, z185, z186, z187, z188, z189, z190, z191, z192, z193, z194, z195, z196, z197, z198, z199], []⟩ w') :
    Code.wp Try.prog (reg 13) Q ⟨#[.slice (some ⟨b, o, none⟩) l.length c, z1, z2, .int .i64 at_, z4, z5, z6, z7, z8, z9, z10, z11, z12, .pointer (some ⟨w3.heap.size, 0, none⟩), .slice A3 (popEnts l).length c3, .bool true, .slice A4 nk c4, z17, z18, z19, z20, z21, z22, z23, z24, z25, z26, z27, z28, z29, z30, z31, z32, z33, z34, z35, z36, z37, z38, z39, z40, z41, z42, z43, z44, z45, z46, z47, z48, z49, z50, z51, z52, z53, z54, z55, z56, z57, z58, z59, z60, z61, z62, z63, z64, z65, z66, z67, z68, z69, z70, z71, z72, z73, z74, z75, z76, z77, z78, z79, z80, z81, z82, z83, z84, z85, z86, z87, z88, z89, z90, z91, z92, z93, z94, z95, z96, z97, z98, z99, z100, z101, z102, z103, z104, z105, z106, z107, z108, z109, z110, z111, z112, z113, z114, z115, z116, z117, z118, z119, z120, z121, z122, z123, z124, z125, z126, z127, z128, z129, z130, z131, z132, z133, z134, z135, z136, z137, z138, z139, z140, z141, z142, z143, z144, z145, z146, z147, z148, z149, z150, z151, z152, z153, z154, z155, z156, z157, z158, z159, z160, z161, z162, z163, z164, z165, z166, z167, z168, z169, z170, z171, z172, z173, z174, z175, z176, z177, z178, z179, z180, z181, z182, z183, z184, z185, z186, z187, z188, z189, z190, z191, z192, z193, z194, z195, z196, z197, z198, z199], []⟩ w6 := by
  conv => arg 2; whnf
  have hne := fun w => run_neq_ent (l[0]'hpos) (l[0]'hpos) w
  simp only [decide_true, Bool.not_true] at hne
  refine region_tell (w6.heap.size) (G := fun _ => True) (ts := [
      .is (.bool true),
      .is (.slice (some ⟨b, o, none⟩) l.length c),
      .is (.int .i64 (l.length : Int)),
      .is (.bool true),
      .is (.bool false),
      .is (.bool false),
      .is (.bool true),
      .is (.bool true),
      .is ((l[0]'hpos).v),
      .is (.slice (some ⟨b, o, none⟩) l.length c),
      .is (.pointer (some ⟨b, o, none⟩)),
      .is ((l[0]'hpos).v),
      .is (.bool false),
      .is (.bool false),
      .is (.slice A3 (popEnts l).length c3),
      .is (.slice (some ⟨b, o, none⟩) l.length c),
      .makes (fun v w' => OwnE w' w6.heap.size v (popEnts l)),
      .draws (.bool true),
      .is (.bool false),
      .is (.bool false),
      .is (.bool false),
      .is (.bool false),
      .is (.bool false),
      .is (.slice A4 nk c4),
      .is (.slice (some ⟨b, o, none⟩) l.length c),
      .is (.int .i64 at_),
      .is (.int .i64 (max at_ 0)),
      .is (.slice (some ⟨b, o, none⟩) l.length c),
      .is (.int .i64 (l.length : Int)),
      .is (.int .i64 (nk : Int)),
      .is (.slice (some ⟨b, o, none⟩) nk c),
      .draws (.bool true),
      .is (.bool false),
      .is (.bool false)]) (fin := []) (cs := []) (by kernel_rfl) rfl (by kernel_rfl) (by kernel_rfl) ⟨trivial, trivial, trivial, trivial, trivial, trivial, trivial, trivial, trivial, trivial, trivial, trivial, trivial, trivial, trivial, trivial, OwnE.grows, trivial, trivial, trivial, trivial, trivial, trivial, trivial, trivial, trivial, trivial, trivial, trivial, trivial, trivial, trivial, trivial, trivial, trivial⟩ (fun _ _ _ _ => trivial) (by simp) (by simp) trivial
    ⟨?_, ?_, ?_, ?_, ?_, ?_, ?_, ?_, ?_, ?_, ?_, ?_, ?_, ?_, ?_, ?_, ?_, ?_, ?_, ?_, ?_, ?_, ?_, ?_, ?_, ?_, ?_, ?_, ?_, ?_, ?_, ?_, ?_, ?_, trivial⟩ ?_
  · intro vals w1 hB _ hd
    clear hd
    refine one_value (v := Value.bool true) rfl ?_ (post_is rfl)
    kernel_rfl
  · intro vals w1 hB _ hd
    clear hd
    refine one_value (v := Value.slice (some ⟨b, o, none⟩) l.length c) rfl ?_ (post_is rfl)
    kernel_rfl
  · intro vals w1 hB _ hd
    clear hd
    refine one_value (v := Value.int .i64 (l.length : Int)) rfl ?_ (post_is rfl)
    kernel_rfl
  · intro vals w1 hB _ hd
    clear hd
    refine one_value (v := Value.bool true) rfl ?_ (post_is rfl)
    have hm := HMO.out; refine Eq.trans (b := (execOp (Act.eval ⟨#[], []⟩) { dst := none, op := Op.binOp BinOp.gtr 3 (.const (Value.int .i64 (l.length : Int))) (.const (Value.int IntKind.i64 (0))) 3, type := 0, pos := "x", after := #[], guard := none }).run Try.prog w1) (by kernel_rfl) ?_; go_simp
  · intro vals w1 hB _ hd
    clear hd
    refine one_value (v := Value.bool false) rfl ?_ (post_is rfl)
    kernel_rfl
  · intro vals w1 hB _ hd
    clear hd
    refine one_value (v := Value.bool false) rfl ?_ (post_is rfl)
    kernel_rfl
  · intro vals w1 hB _ hd
    clear hd
    refine one_value_g (v := Value.bool true) (by kernel_rfl) ?_ (post_is rfl)
    kernel_rfl
  · intro vals w1 hB _ hd
    clear hd
    refine one_value_g (v := Value.bool true) (by kernel_rfl) ?_ (post_is rfl)
    kernel_rfl
  · intro vals w1 hB _ hd
    clear hd
    refine one_value_g (v := (l[0]'hpos).v) (by kernel_rfl) ?_ (post_is rfl)
    exact exec_load_row rfl (b := w3.heap.size) (off := 0) (by kernel_rfl) (l[0]'hpos).cs (fun j u hu => cells_of_block ((hB.block _ HS3.out).trans D6.out) j u hu) Try.underlying27 rfl (by kernel_rfl)
  · intro vals w1 hB _ hd
    clear hd
    refine one_value_g (v := Value.slice (some ⟨b, o, none⟩) l.length c) (by kernel_rfl) ?_ (post_is rfl)
    kernel_rfl
  · intro vals w1 hB _ hd
    clear hd
    refine one_value_g (v := Value.pointer (some ⟨b, o, none⟩)) (by kernel_rfl) ?_ (post_is rfl)
    refine Eq.trans (b := (execOp (Act.eval ⟨#[], []⟩) { dst := none, op := Op.indexAddr 23 (.const (Value.slice (some ⟨b, o, none⟩) l.length c)) (.const (Value.int IntKind.i64 (0))), type := 0, pos := "x", after := #[], guard := none }).run Try.prog w1) (by kernel_rfl) ?_; go_simp; try (intro h; omega)
  · intro vals w1 hB _ hd
    clear hd
    refine one_value_g (v := (l[0]'hpos).v) (by kernel_rfl) ?_ (post_is rfl)
    exact exec_load_row rfl (b := b) (off := o) (by kernel_rfl) (l[0]'hpos).cs (fun j u hu => (hB.cell (p := ⟨b, o + j, none⟩) hb0).trans (hcl j u hu)) Try.underlying27 rfl (by kernel_rfl)
  · intro vals w1 hB _ hd
    clear hd
    refine one_value_g (v := Value.bool false) (by kernel_rfl) ?_ (post_is rfl)
    have hn := hne w1; refine Eq.trans (b := (execOp (Act.eval ⟨#[], []⟩) { dst := none, op := Op.binOp BinOp.neq 27 (.const ((l[0]'hpos).v)) (.const ((l[0]'hpos).v)) 27, type := 0, pos := "x", after := #[], guard := none }).run Try.prog w1) (by kernel_rfl) ?_; go_simp
  · intro vals w1 hB _ hd
    clear hd
    refine one_value_g (v := Value.bool false) (by kernel_rfl) ?_ (post_is rfl)
    kernel_rfl
  · intro vals w1 hB _ hd
    clear hd
    refine one_value_g (v := Value.slice A3 (popEnts l).length c3) (by kernel_rfl) ?_ (post_is rfl)
    kernel_rfl
  · intro vals w1 hB _ hd
    clear hd
    refine one_value_g (v := Value.slice (some ⟨b, o, none⟩) l.length c) (by kernel_rfl) ?_ (post_is rfl)
    kernel_rfl
  · intro vals w1 hB _ hd
    clear hd
    refine one_calls_g (f := 19) (args := #[.slice (some ⟨b, o, none⟩) l.length c]) (w1 := w1) (by kernel_rfl) ?_ ?_
    · kernel_rfl
    refine (ref_pop (some ⟨b, o, none⟩) c l w1 (R6.out.past hB) (by omega) HSM.out).mono ?_
    rintro e1 w2 ⟨v, rfl, h1, h2⟩
    exact ⟨v, rfl, post_makes rfl (OwnE.lower h1 hB.size) h2⟩
  · intro vals w1 hB _ hd
    refine one_calls_g (f := 18) (args := #[.slice A3 (popEnts l).length c3, vals 16]) (w1 := w1) (by kernel_rfl) ?_ ?_
    · kernel_rfl
    have h16 : OwnE w1 w6.heap.size (vals 16) (popEnts l) := hd 16 (by kernel_rfl)
    clear hd
    obtain ⟨A', c', hv, hc', hr'⟩ := h16.shape
    rw [hv]
    refine (same_ents A3 A' c3 c' (popEnts l) (popEnts l) w1 (PR6.out.past hB) hr' (by simp [popEnts]; omega)).mono ?_
    rintro e1 w2 ⟨rfl, h2⟩
    rw [decide_eq_true rfl]
    exact ⟨_, rfl, post_draws rfl h2⟩
  · intro vals w1 hB _ hd
    clear hd
    refine one_value_g (v := Value.bool false) (by kernel_rfl) ?_ (post_is rfl)
    kernel_rfl
  · intro vals w1 hB _ hd
    clear hd
    refine one_value_g (v := Value.bool false) (by kernel_rfl) ?_ (post_is rfl)
    kernel_rfl
  · intro vals w1 hB _ hd
    clear hd
    refine one_value_g (v := Value.bool false) (by kernel_rfl) ?_ (post_is rfl)
    kernel_rfl
  · intro vals w1 hB _ hd
    clear hd
    refine one_value (v := Value.bool false) rfl ?_ (post_is rfl)
    kernel_rfl
  · intro vals w1 hB _ hd
    clear hd
    refine one_value (v := Value.bool false) rfl ?_ (post_is rfl)
    kernel_rfl
  · intro vals w1 hB _ hd
    clear hd
    refine one_value_g (v := Value.slice A4 nk c4) (by kernel_rfl) ?_ (post_is rfl)
    kernel_rfl
  · intro vals w1 hB _ hd
    clear hd
    refine one_value_g (v := Value.slice (some ⟨b, o, none⟩) l.length c) (by kernel_rfl) ?_ (post_is rfl)
    kernel_rfl
  · intro vals w1 hB _ hd
    clear hd
    refine one_value_g (v := Value.int .i64 at_) (by kernel_rfl) ?_ (post_is rfl)
    kernel_rfl
  · intro vals w1 hB _ hd
    clear hd
    refine one_value_g (v := Value.int .i64 (max at_ 0)) (by kernel_rfl) ?_ (post_is rfl)
    refine Eq.trans (b := (execOp (Act.eval ⟨#[], []⟩) { dst := none, op := Op.call { callee := .builtin .max, args := #[(.const (Value.int .i64 at_)), (.const (Value.int IntKind.i64 (0)))], argTypes := #[3, 3] }, type := 3, pos := "x", after := #[], guard := none }).run Try.prog w1) (by kernel_rfl) ?_; go_simp
  · intro vals w1 hB _ hd
    clear hd
    refine one_value_g (v := Value.slice (some ⟨b, o, none⟩) l.length c) (by kernel_rfl) ?_ (post_is rfl)
    kernel_rfl
  · intro vals w1 hB _ hd
    clear hd
    refine one_value_g (v := Value.int .i64 (l.length : Int)) (by kernel_rfl) ?_ (post_is rfl)
    kernel_rfl
  · intro vals w1 hB _ hd
    clear hd
    refine one_value_g (v := Value.int .i64 (nk : Int)) (by kernel_rfl) ?_ (post_is rfl)
    have hm := HMM.out; refine Eq.trans (b := (execOp (Act.eval ⟨#[], []⟩) { dst := none, op := Op.call { callee := .builtin .min, args := #[(.const (Value.int .i64 (max at_ 0))), (.const (Value.int .i64 (l.length : Int)))], argTypes := #[3, 3] }, type := 3, pos := "x", after := #[], guard := none }).run Try.prog w1) (by kernel_rfl) ?_; go_simp
  · intro vals w1 hB _ hd
    clear hd
    refine one_value_g (v := Value.slice (some ⟨b, o, none⟩) nk c) (by kernel_rfl) ?_ (post_is rfl)
    have hc := HCUT.out w1; refine Eq.trans (b := (execOp (Act.eval ⟨#[], []⟩) { dst := none, op := Op.slice 23 (.const (Value.slice (some ⟨b, o, none⟩) l.length c)) none (some (.const (Value.int .i64 (nk : Int)))) none, type := 0, pos := "x", after := #[], guard := none }).run Try.prog w1) (by kernel_rfl) ?_; go_simp
  · intro vals w1 hB _ hd
    clear hd
    refine one_calls_g (f := 18) (args := #[.slice A4 nk c4, .slice (some ⟨b, o, none⟩) nk c]) (w1 := w1) (by kernel_rfl) ?_ ?_
    · kernel_rfl
    refine (same_ents_at A4 (some ⟨b, o, none⟩) nk nk c4 c (l.take at_.toNat) (l.take at_.toNat) w1 Hnk.out Hnk.out (PC6.out.past hB) ((R6.out.past hB).to_min at_.toNat) (by rw [List.length_take]; omega)).mono ?_
    rintro e1 w2 ⟨rfl, h2⟩
    rw [decide_eq_true rfl]
    exact ⟨_, rfl, post_draws rfl h2⟩
  · intro vals w1 hB _ hd
    clear hd
    refine one_value_g (v := Value.bool false) (by kernel_rfl) ?_ (post_is rfl)
    kernel_rfl
  · intro vals w1 hB _ hd
    clear hd
    refine one_value (v := Value.bool false) rfl ?_ (post_is rfl)
    kernel_rfl
  intro vals w1 hB _ hr
  simp only [fillT, Tell.is, Tell.draws, Tell.makes, Act.put, List.setIfInBounds_toArray, List.set_cons_zero, List.set_cons_succ]
  exact hQ _ _ _ _ _ _ _ _ _ _ _ _ _ _ _ _ _ _ _ _ _ _ _ _ _ _ _ _ _ _ _ _ _ w1 hB
set_option maxRecDepth 100000 in
set_option maxHeartbeats 4000000 in
theorem r13f {z1 z2 z4 z5 z6 z7 z8 z9 z10 z11 z12 z13 z14 z17 z18 z19 z20 z21 z22 z23 z24 z25 z26 z27 z28 z29 z30 z31 z32 z33 z34 z35 z36 z37 z38 z39 z40 z41 z42 z43 z44 z45 z46 z47 z48 z49 z50 z51 z52 z53 z54 z55 z56 z57 z58 z59 z60 z61 z62 z63 z64 z65 z66 z67 z68 z69 z70 z71 z72 z73 z74 z75 z76 z77 z78 z79 z80 z81 z82 z83 z84 z85 z86 z87 z88 z89 z90 z91 z92 z93 z94 z95 z96 z97 z98 z99 z100 z101 z102 z103 z104 z105 z106 z107 z108 z109 z110 z111 z112 z113 z114 z115 z116 z117 z118 z119 z120 z121 z122 z123 z124 z125 z126 z127 z128 z129 z130 z131 z132 z133 z134 z135 z136 z137 z138 z139 z140 z141 z142 z143 z144 z145 z146 z147 z148 z149 z150 z151 z152 z153 z154 z155 z156 z157 z158 z159 z160 z161 z162 z163 z164 z165 z166 z167 z168 z169 z170 z171 z172 z173 z174 z175 z176 z177 z178 z179 z180 z181 z182 z183 z184 z185 z186 z187 z188 z189 z190 z191 z192 z193 z194 z195 z196 z197 z198 z199 : Value} (w6 : World) (A A4 : Option Addr) (c c4 nk : Nat) (l : List Ent) (at_ : Int) (h40 : ¬ 40 < l.length) (hnil : Kept (l = [])) (HMO : Kept (decide (0 < (l.length : Int)) = false)) (HMM : Kept (min (max at_ 0) (l.length : Int) = (nk : Int))) (Hnk : Kept ((l.take at_.toNat).length = nk))
    (HCUT : Kept (∀ w1, (Instr.slice 23 (.slice A l.length c) none (some (.int .i64 (nk : Int))) none).run Try.prog w1 = .ok (.slice A nk c) w1)) (R6 : Kept (RdE w6 A l)) (PC6 : Kept (RdE w6 A4 (l.take at_.toNat))) (Q : Exit → Act → World → Prop)
    (hQ : ∀ (u98 u99 u100 u101 u102 u103 u104 u105 u106 u107 u108 u109 u110 u111 u112 u113 u114 u115 u116 u117 u118 u119 u120 u121 u122 u123 u124 u125 u126 u127 u128 u129 u130 : Value) (w' : World), Below w6.heap.size w6 w' → Q .normal ⟨#[.slice A l.length c, z1, z2, .int .i64 at_, z4, z5, z6, z7, z8, z9, z10, z11, z12, z13, z14, .bool false, .slice A4 nk c4, z17, z18, z19, z20, z21, z22, z23, z24, z25, z26, z27, z28, z29, z30, z31, z32, z33, z34, z35, z36, z37, z38, z39, z40, z41, z42, z43, z44, z45, z46, z47, z48, z49, z50, z51, z52, z53, z54, z55, z56, z57, z58, z59, z60, z61, z62, z63, z64, z65, z66, z67, z68, z69, z70, z71, z72, z73, z74, z75, z76, z77, z78, z79, z80, z81, z82, z83, z84, z85, z86, z87, z88, z89, z90, z91, z92, z93, z94, z95, z96, z97, u98, u99, u100, u101, u102, u103, u104, u105, u106, u107, u108, u109, u110, u111, u112, u113, u114, u115, u116, u117, u118, u119, u120, u121, u122, u123, u124, u125, u126, u127, u128, u129, u130, .bool false, z132, z133, z134, z135, z136, z137, z138, z139, z140, z141, z142, z143, z144, z145, z146, z147, z148, z149, z150, z151, z152, z153, z154, z155, z156, z157, z158, z159, z160, z161, z162, z163, z164, z165, z166, z167, z168, z169, z170, z171, z172, z173, z174, z175, z176, z177, z178, z179, z180, z181, z182, z183, z184, z185, z186, z187, z188, z189, z190, z191, z192, z193, z194, z195, z196, z197, z198, z199], []⟩ w') :
    Code.wp Try.prog (reg 13) Q ⟨#[.slice A l.length c, z1, z2, .int .i64 at_, z4, z5, z6, z7, z8, z9, z10, z11, z12, z13, z14, .bool false, .slice A4 nk c4, z17, z18, z19, z20, z21, z22, z23, z24, z25, z26, z27, z28, z29, z30, z31, z32, z33, z34, z35, z36, z37, z38, z39, z40, z41, z42, z43, z44, z45, z46, z47, z48, z49, z50, z51, z52, z53, z54, z55, z56, z57, z58, z59, z60, z61, z62, z63, z64, z65, z66, z67, z68, z69, z70, z71, z72, z73, z74, z75, z76, z77, z78, z79, z80, z81, z82, z83, z84, z85, z86, z87, z88, z89, z90, z91, z92, z93, z94, z95, z96, z97, z98, z99, z100, z101, z102, z103, z104, z105, z106, z107, z108, z109, z110, z111, z112, z113, z114, z115, z116, z117, z118, z119, z120, z121, z122, z123, z124, z125, z126, z127, z128, z129, z130, z131, z132, z133, z134, z135, z136, z137, z138, z139, z140, z141, z142, z143, z144, z145, z146, z147, z148, z149, z150, z151, z152, z153, z154, z155, z156, z157, z158, z159, z160, z161, z162, z163, z164, z165, z166, z167, z168, z169, z170, z171, z172, z173, z174, z175, z176, z177, z178, z179, z180, z181, z182, z183, z184, z185, z186, z187, z188, z189, z190, z191, z192, z193, z194, z195, z196, z197, z198, z199], []⟩ w6 := by
  conv => arg 2; whnf
  refine region_tell (w6.heap.size) (G := fun _ => True) (ts := [
      .is (.bool false),
      .is (.slice A l.length c),
      .is (.int .i64 (l.length : Int)),
      .is (.bool false),
      .is (.bool false),
      .is (.bool false),
      .is (.bool false),
      .is (.bool false),
      .is (undef),
      .is (undef),
      .is (undef),
      .is (undef),
      .is (undef),
      .is (undef),
      .is (undef),
      .is (undef),
      .is (undef),
      .is (undef),
      .is (undef),
      .is (undef),
      .is (.bool false),
      .is (.bool false),
      .is (.bool false),
      .is (.slice A4 nk c4),
      .is (.slice A l.length c),
      .is (.int .i64 at_),
      .is (.int .i64 (max at_ 0)),
      .is (.slice A l.length c),
      .is (.int .i64 (l.length : Int)),
      .is (.int .i64 (nk : Int)),
      .is (.slice A nk c),
      .draws (.bool true),
      .is (.bool false),
      .is (.bool false)]) (fin := []) (cs := []) (by kernel_rfl) rfl (by kernel_rfl) (by kernel_rfl) ⟨trivial, trivial, trivial, trivial, trivial, trivial, trivial, trivial, trivial, trivial, trivial, trivial, trivial, trivial, trivial, trivial, trivial, trivial, trivial, trivial, trivial, trivial, trivial, trivial, trivial, trivial, trivial, trivial, trivial, trivial, trivial, trivial, trivial, trivial, trivial⟩ (fun _ _ _ _ => trivial) (by simp) (by simp) trivial
    ⟨?_, ?_, ?_, ?_, ?_, ?_, ?_, ?_, ?_, ?_, ?_, ?_, ?_, ?_, ?_, ?_, ?_, ?_, ?_, ?_, ?_, ?_, ?_, ?_, ?_, ?_, ?_, ?_, ?_, ?_, ?_, ?_, ?_, ?_, trivial⟩ ?_
  · intro vals w1 hB _ hd
    clear hd
    refine one_value (v := Value.bool false) rfl ?_ (post_is rfl)
    kernel_rfl
  · intro vals w1 hB _ hd
    clear hd
    refine one_value (v := Value.slice A l.length c) rfl ?_ (post_is rfl)
    kernel_rfl
  · intro vals w1 hB _ hd
    clear hd
    refine one_value (v := Value.int .i64 (l.length : Int)) rfl ?_ (post_is rfl)
    kernel_rfl
  · intro vals w1 hB _ hd
    clear hd
    refine one_value (v := Value.bool false) rfl ?_ (post_is rfl)
    have hm := HMO.out; refine Eq.trans (b := (execOp (Act.eval ⟨#[], []⟩) { dst := none, op := Op.binOp BinOp.gtr 3 (.const (Value.int .i64 (l.length : Int))) (.const (Value.int IntKind.i64 (0))) 3, type := 0, pos := "x", after := #[], guard := none }).run Try.prog w1) (by kernel_rfl) ?_; go_simp; exact hnil.out
  · intro vals w1 hB _ hd
    clear hd
    refine one_value (v := Value.bool false) rfl ?_ (post_is rfl)
    kernel_rfl
  · intro vals w1 hB _ hd
    clear hd
    refine one_value (v := Value.bool false) rfl ?_ (post_is rfl)
    kernel_rfl
  · intro vals w1 hB _ hd
    clear hd
    refine one_value_g (v := Value.bool false) (by kernel_rfl) ?_ (post_is rfl)
    kernel_rfl
  · intro vals w1 hB _ hd
    clear hd
    refine one_value_g (v := Value.bool false) (by kernel_rfl) ?_ (post_is rfl)
    kernel_rfl
  · intro vals w1 hB _ hd
    clear hd
    exact one_not (by kernel_rfl) (post_is rfl)
  · intro vals w1 hB _ hd
    clear hd
    exact one_not (by kernel_rfl) (post_is rfl)
  · intro vals w1 hB _ hd
    clear hd
    exact one_not (by kernel_rfl) (post_is rfl)
  · intro vals w1 hB _ hd
    clear hd
    exact one_not (by kernel_rfl) (post_is rfl)
  · intro vals w1 hB _ hd
    clear hd
    exact one_not (by kernel_rfl) (post_is rfl)
  · intro vals w1 hB _ hd
    clear hd
    exact one_not (by kernel_rfl) (post_is rfl)
  · intro vals w1 hB _ hd
    clear hd
    exact one_not (by kernel_rfl) (post_is rfl)
  · intro vals w1 hB _ hd
    clear hd
    exact one_not (by kernel_rfl) (post_is rfl)
  · intro vals w1 hB _ hd
    clear hd
    exact one_not (by kernel_rfl) (post_is rfl)
  · intro vals w1 hB _ hd
    clear hd
    exact one_not (by kernel_rfl) (post_is rfl)
  · intro vals w1 hB _ hd
    clear hd
    exact one_not (by kernel_rfl) (post_is rfl)
  · intro vals w1 hB _ hd
    clear hd
    exact one_not (by kernel_rfl) (post_is rfl)
  · intro vals w1 hB _ hd
    clear hd
    refine one_value_g (v := Value.bool false) (by kernel_rfl) ?_ (post_is rfl)
    kernel_rfl
  · intro vals w1 hB _ hd
    clear hd
    refine one_value (v := Value.bool false) rfl ?_ (post_is rfl)
    kernel_rfl
  · intro vals w1 hB _ hd
    clear hd
    refine one_value (v := Value.bool false) rfl ?_ (post_is rfl)
    kernel_rfl
  · intro vals w1 hB _ hd
    clear hd
    refine one_value_g (v := Value.slice A4 nk c4) (by kernel_rfl) ?_ (post_is rfl)
    kernel_rfl
  · intro vals w1 hB _ hd
    clear hd
    refine one_value_g (v := Value.slice A l.length c) (by kernel_rfl) ?_ (post_is rfl)
    kernel_rfl
  · intro vals w1 hB _ hd
    clear hd
    refine one_value_g (v := Value.int .i64 at_) (by kernel_rfl) ?_ (post_is rfl)
    kernel_rfl
  · intro vals w1 hB _ hd
    clear hd
    refine one_value_g (v := Value.int .i64 (max at_ 0)) (by kernel_rfl) ?_ (post_is rfl)
    refine Eq.trans (b := (execOp (Act.eval ⟨#[], []⟩) { dst := none, op := Op.call { callee := .builtin .max, args := #[(.const (Value.int .i64 at_)), (.const (Value.int IntKind.i64 (0)))], argTypes := #[3, 3] }, type := 3, pos := "x", after := #[], guard := none }).run Try.prog w1) (by kernel_rfl) ?_; go_simp
  · intro vals w1 hB _ hd
    clear hd
    refine one_value_g (v := Value.slice A l.length c) (by kernel_rfl) ?_ (post_is rfl)
    kernel_rfl
  · intro vals w1 hB _ hd
    clear hd
    refine one_value_g (v := Value.int .i64 (l.length : Int)) (by kernel_rfl) ?_ (post_is rfl)
    kernel_rfl
  · intro vals w1 hB _ hd
    clear hd
    refine one_value_g (v := Value.int .i64 (nk : Int)) (by kernel_rfl) ?_ (post_is rfl)
    have hm := HMM.out; refine Eq.trans (b := (execOp (Act.eval ⟨#[], []⟩) { dst := none, op := Op.call { callee := .builtin .min, args := #[(.const (Value.int .i64 (max at_ 0))), (.const (Value.int .i64 (l.length : Int)))], argTypes := #[3, 3] }, type := 3, pos := "x", after := #[], guard := none }).run Try.prog w1) (by kernel_rfl) ?_; go_simp
  · intro vals w1 hB _ hd
    clear hd
    refine one_value_g (v := Value.slice A nk c) (by kernel_rfl) ?_ (post_is rfl)
    have hc := HCUT.out w1; refine Eq.trans (b := (execOp (Act.eval ⟨#[], []⟩) { dst := none, op := Op.slice 23 (.const (Value.slice A l.length c)) none (some (.const (Value.int .i64 (nk : Int)))) none, type := 0, pos := "x", after := #[], guard := none }).run Try.prog w1) (by kernel_rfl) ?_; go_simp
  · intro vals w1 hB _ hd
    clear hd
    refine one_calls_g (f := 18) (args := #[.slice A4 nk c4, .slice A nk c]) (w1 := w1) (by kernel_rfl) ?_ ?_
    · kernel_rfl
    refine (same_ents_at A4 A nk nk c4 c (l.take at_.toNat) (l.take at_.toNat) w1 Hnk.out Hnk.out (PC6.out.past hB) ((R6.out.past hB).to_min at_.toNat) (by rw [List.length_take]; omega)).mono ?_
    rintro e1 w2 ⟨rfl, h2⟩
    rw [decide_eq_true rfl]
    exact ⟨_, rfl, post_draws rfl h2⟩
  · intro vals w1 hB _ hd
    clear hd
    refine one_value_g (v := Value.bool false) (by kernel_rfl) ?_ (post_is rfl)
    kernel_rfl
  · intro vals w1 hB _ hd
    clear hd
    refine one_value (v := Value.bool false) rfl ?_ (post_is rfl)
    kernel_rfl
  intro vals w1 hB _ hr
  simp only [fillT, Tell.is, Tell.draws, Act.put, List.setIfInBounds_toArray, List.set_cons_zero, List.set_cons_succ]
  exact hQ _ _ _ _ _ _ _ _ _ _ _ _ _ _ _ _ _ _ _ _ _ _ _ _ _ _ _ _ _ _ _ _ _ w1 hB
set_option maxRecDepth 100000 in
set_option maxHeartbeats 4000000 in
theorem r21t {z1 z2 z4 z6 z7 z8 z9 z10 z11 z12 z13 z14 z15 z16 z18 z20 z21 z22 z23 z24 z25 z26 z27 z28 z29 z30 z31 z32 z33 z34 z35 z36 z37 z38 z39 z40 z41 z42 z43 z44 z45 z46 z47 z48 z49 z50 z51 z52 z53 z54 z55 z56 z57 z58 z59 z60 z61 z62 z63 z64 z65 z66 z67 z68 z69 z70 z71 z72 z73 z74 z75 z76 z77 z78 z79 z80 z81 z82 z83 z84 z85 z86 z87 z88 z89 z90 z91 z92 z93 z94 z95 z96 z97 z98 z99 z100 z101 z102 z103 z104 z105 z106 z107 z108 z109 z110 z111 z112 z113 z114 z115 z116 z117 z118 z119 z120 z121 z122 z123 z124 z125 z126 z127 z128 z129 z130 z131 z132 z133 z134 z135 z136 z137 z138 z139 z140 z141 z142 z143 z144 z145 z146 z147 z148 z149 z150 z151 z152 z153 z154 z155 z156 z157 z158 z159 z160 z161 z162 z163 z164 z165 z166 z167 z168 z169 z170 z171 z172 z173 z174 z175 z176 z177 z178 z179 z180 z181 z182 z183 z184 z185 z186 z187 z188 z189 z190 z191 z192 z193 z194 z195 z196 z197 z198 z199 : Value} (w wr : World) (c c5 b o b5 o5 k : Nat) (l : List Ent) (e : Ent) (hkl : k < l.length) (XK : Kept (wr.heap[w.heap.size]? = some (.cells e.cs.toArray 27 (0, 0)))) (HSZK : Kept (w.heap.size < wr.heap.size))
    (hb5 : b5 < wr.heap.size) (hcl5 : ∀ j u, e.cs[j]? = some u → wr.cell? ⟨b5, o5 + k * 8 + j, none⟩ = some u) (Q : Exit → Act → World → Prop)
    (hQ : ∀ (u157 u158 u159 u160 u161 u162 u163 u164 u165 u166 u167 u168 u169 u170 u171 u172 u173 u174 u175 u176 u177 u178 u179 u180 u181 u182 : Value) (w' : World), Below wr.heap.size wr w' → Q .normal ⟨#[.slice (some ⟨b, o, none⟩) l.length c, z1, z2, .int .i64 (k : Int), z4, .pointer (some ⟨w.heap.size, 0, none⟩), z6, z7, z8, z9, z10, z11, z12, z13, z14, z15, z16, .slice (some ⟨b5, o5, none⟩) l.length c5, z18, .int .i64 (k : Int), z20, z21, z22, z23, z24, z25, z26, z27, z28, z29, z30, z31, z32, z33, z34, z35, z36, z37, z38, z39, z40, z41, z42, z43, z44, z45, z46, z47, z48, z49, z50, z51, z52, z53, z54, z55, z56, z57, z58, z59, z60, z61, z62, z63, z64, z65, z66, z67, z68, z69, z70, z71, z72, z73, z74, z75, z76, z77, z78, z79, z80, z81, z82, z83, z84, z85, z86, z87, z88, z89, z90, z91, z92, z93, z94, z95, z96, z97, z98, z99, z100, z101, z102, z103, z104, z105, z106, z107, z108, z109, z110, z111, z112, z113, z114, z115, z116, z117, z118, z119, z120, z121, z122, z123, z124, z125, z126, z127, z128, z129, z130, z131, z132, z133, z134, z135, z136, z137, z138, z139, z140, z141, z142, z143, z144, z145, z146, z147, z148, z149, z150, z151, z152, z153, z154, z155, z156, u157, u158, u159, u160, u161, u162, u163, u164, u165, u166, u167, u168, u169, u170, u171, u172, u173, u174, u175, u176, u177, u178, u179, u180, u181, u182, .bool false, z184, z185, z186, z187, z188, z189, z190, z191, z192, z193, z194, z195, z196, z197, z198, z199], []⟩ w') :
    Code.wp Try.prog (reg 21) Q ⟨#[.slice (some ⟨b, o, none⟩) l.length c, z1, z2, .int .i64 (k : Int), z4, .pointer (some ⟨w.heap.size, 0, none⟩), z6, z7, z8, z9, z10, z11, z12, z13, z14, z15, z16, .slice (some ⟨b5, o5, none⟩) l.length c5, z18, .int .i64 (k : Int), z20, z21, z22, z23, z24, z25, z26, z27, z28, z29, z30, z31, z32, z33, z34, z35, z36, z37, z38, z39, z40, z41, z42, z43, z44, z45, z46, z47, z48, z49, z50, z51, z52, z53, z54, z55, z56, z57, z58, z59, z60, z61, z62, z63, z64, z65, z66, z67, z68, z69, z70, z71, z72, z73, z74, z75, z76, z77, z78, z79, z80, z81, z82, z83, z84, z85, z86, z87, z88, z89, z90, z91, z92, z93, z94, z95, z96, z97, z98, z99, z100, z101, z102, z103, z104, z105, z106, z107, z108, z109, z110, z111, z112, z113, z114, z115, z116, z117, z118, z119, z120, z121, z122, z123, z124, z125, z126, z127, z128, z129, z130, z131, z132, z133, z134, z135, z136, z137, z138, z139, z140, z141, z142, z143, z144, z145, z146, z147, z148, z149, z150, z151, z152, z153, z154, z155, z156, z157, z158, z159, z160, z161, z162, z163, z164, z165, z166, z167, z168, z169, z170, z171, z172, z173, z174, z175, z176, z177, z178, z179, z180, z181, z182, z183, z184, z185, z186, z187, z188, z189, z190, z191, z192, z193, z194, z195, z196, z197, z198, z199], []⟩ wr := by
  conv => arg 2; whnf
  have hne := fun w => run_neq_ent e e w
  simp only [decide_true, Bool.not_true] at hne
  refine region_tell (wr.heap.size) (G := fun _ => True) (ts := [
      .is (.int .i64 (k : Int)),
      .is (.int .i64 (k : Int)),
      .is (.bool false),
      .is (.bool false),
      .is (undef),
      .is (undef),
      .is (undef),
      .is (undef),
      .is (undef),
      .is (undef),
      .is (undef),
      .is (undef),
      .is (undef),
      .is (.bool false),
      .is (.bool false),
      .is (.int .i64 (k : Int)),
      .is (.int .i64 (k : Int)),
      .is (.bool true),
      .is (.bool true),
      .is (.slice (some ⟨b5, o5, none⟩) l.length c5),
      .is (.int .i64 (k : Int)),
      .is (.pointer (some ⟨b5, o5 + k * 8, none⟩)),
      .is (e.v),
      .is (e.v),
      .is (.bool false),
      .is (.bool false),
      .is (.bool false)]) (fin := []) (cs := []) (by kernel_rfl) rfl (by kernel_rfl) (by kernel_rfl) ⟨trivial, trivial, trivial, trivial, trivial, trivial, trivial, trivial, trivial, trivial, trivial, trivial, trivial, trivial, trivial, trivial, trivial, trivial, trivial, trivial, trivial, trivial, trivial, trivial, trivial, trivial, trivial, trivial⟩ (fun _ _ _ _ => trivial) (by simp) (by simp) trivial
    ⟨?_, ?_, ?_, ?_, ?_, ?_, ?_, ?_, ?_, ?_, ?_, ?_, ?_, ?_, ?_, ?_, ?_, ?_, ?_, ?_, ?_, ?_, ?_, ?_, ?_, ?_, ?_, trivial⟩ ?_
  · intro vals w1 hB _ hd
    clear hd
    refine one_value (v := Value.int .i64 (k : Int)) rfl ?_ (post_is rfl)
    kernel_rfl
  · intro vals w1 hB _ hd
    clear hd
    refine one_value (v := Value.int .i64 (k : Int)) rfl ?_ (post_is rfl)
    kernel_rfl
  · intro vals w1 hB _ hd
    clear hd
    refine one_value (v := Value.bool false) rfl ?_ (post_is rfl)
    refine Eq.trans (b := (execOp (Act.eval ⟨#[], []⟩) { dst := none, op := Op.binOp BinOp.neq 3 (.const (Value.int .i64 (k : Int))) (.const (Value.int .i64 (k : Int))) 3, type := 0, pos := "x", after := #[], guard := none }).run Try.prog w1) (by kernel_rfl) ?_; go_simp
  · intro vals w1 hB _ hd
    clear hd
    refine one_value (v := Value.bool false) rfl ?_ (post_is rfl)
    kernel_rfl
  · intro vals w1 hB _ hd
    clear hd
    exact one_not (by kernel_rfl) (post_is rfl)
  · intro vals w1 hB _ hd
    clear hd
    exact one_not (by kernel_rfl) (post_is rfl)
  · intro vals w1 hB _ hd
    clear hd
    exact one_not (by kernel_rfl) (post_is rfl)
  · intro vals w1 hB _ hd
    clear hd
    exact one_not (by kernel_rfl) (post_is rfl)
  · intro vals w1 hB _ hd
    clear hd
    exact one_not (by kernel_rfl) (post_is rfl)
  · intro vals w1 hB _ hd
    clear hd
    exact one_not (by kernel_rfl) (post_is rfl)
  · intro vals w1 hB _ hd
    clear hd
    exact one_not (by kernel_rfl) (post_is rfl)
  · intro vals w1 hB _ hd
    clear hd
    exact one_not (by kernel_rfl) (post_is rfl)
  · intro vals w1 hB _ hd
    clear hd
    exact one_not (by kernel_rfl) (post_is rfl)
  · intro vals w1 hB _ hd
    clear hd
    refine one_value (v := Value.bool false) rfl ?_ (post_is rfl)
    kernel_rfl
  · intro vals w1 hB _ hd
    clear hd
    refine one_value (v := Value.bool false) rfl ?_ (post_is rfl)
    kernel_rfl
  · intro vals w1 hB _ hd
    clear hd
    refine one_value_g (v := Value.int .i64 (k : Int)) (by kernel_rfl) ?_ (post_is rfl)
    kernel_rfl
  · intro vals w1 hB _ hd
    clear hd
    refine one_value_g (v := Value.int .i64 (k : Int)) (by kernel_rfl) ?_ (post_is rfl)
    kernel_rfl
  · intro vals w1 hB _ hd
    clear hd
    refine one_value_g (v := Value.bool true) (by kernel_rfl) ?_ (post_is rfl)
    refine Eq.trans (b := (execOp (Act.eval ⟨#[], []⟩) { dst := none, op := Op.binOp BinOp.eql 3 (.const (Value.int .i64 (k : Int))) (.const (Value.int .i64 (k : Int))) 3, type := 0, pos := "x", after := #[], guard := none }).run Try.prog w1) (by kernel_rfl) ?_; go_simp
  · intro vals w1 hB _ hd
    clear hd
    refine one_value_g (v := Value.bool true) (by kernel_rfl) ?_ (post_is rfl)
    kernel_rfl
  · intro vals w1 hB _ hd
    clear hd
    refine one_value_g (v := Value.slice (some ⟨b5, o5, none⟩) l.length c5) (by kernel_rfl) ?_ (post_is rfl)
    kernel_rfl
  · intro vals w1 hB _ hd
    clear hd
    refine one_value_g (v := Value.int .i64 (k : Int)) (by kernel_rfl) ?_ (post_is rfl)
    kernel_rfl
  · intro vals w1 hB _ hd
    clear hd
    refine one_value_g (v := Value.pointer (some ⟨b5, o5 + k * 8, none⟩)) (by kernel_rfl) ?_ (post_is rfl)
    refine Eq.trans (b := (execOp (Act.eval ⟨#[], []⟩) { dst := none, op := Op.indexAddr 23 (.const (Value.slice (some ⟨b5, o5, none⟩) l.length c5)) (.const (Value.int .i64 (k : Int))), type := 0, pos := "x", after := #[], guard := none }).run Try.prog w1) (by kernel_rfl) ?_; go_simp; try (intro h; omega)
  · intro vals w1 hB _ hd
    clear hd
    refine one_value_g (v := e.v) (by kernel_rfl) ?_ (post_is rfl)
    exact exec_load_row rfl (b := b5) (off := o5 + k * 8) (by kernel_rfl) e.cs (fun j u hu => (hB.cell (p := ⟨b5, o5 + k * 8 + j, none⟩) hb5).trans (hcl5 j u hu)) Try.underlying27 rfl (by kernel_rfl)
  · intro vals w1 hB _ hd
    clear hd
    refine one_value_g (v := e.v) (by kernel_rfl) ?_ (post_is rfl)
    exact exec_load_row rfl (b := w.heap.size) (off := 0) (by kernel_rfl) e.cs (fun j u hu => cells_of_block ((hB.block _ HSZK.out).trans XK.out) j u hu) Try.underlying27 rfl (by kernel_rfl)
  · intro vals w1 hB _ hd
    clear hd
    refine one_value_g (v := Value.bool false) (by kernel_rfl) ?_ (post_is rfl)
    have hn := hne w1; refine Eq.trans (b := (execOp (Act.eval ⟨#[], []⟩) { dst := none, op := Op.binOp BinOp.neq 27 (.const (e.v)) (.const (e.v)) 27, type := 0, pos := "x", after := #[], guard := none }).run Try.prog w1) (by kernel_rfl) ?_; go_simp
  · intro vals w1 hB _ hd
    clear hd
    refine one_value_g (v := Value.bool false) (by kernel_rfl) ?_ (post_is rfl)
    kernel_rfl
  · intro vals w1 hB _ hd
    clear hd
    refine one_value (v := Value.bool false) rfl ?_ (post_is rfl)
    kernel_rfl
  intro vals w1 hB _ hr
  simp only [fillT, Tell.is, Act.put, List.setIfInBounds_toArray, List.set_cons_zero, List.set_cons_succ]
  exact hQ _ _ _ _ _ _ _ _ _ _ _ _ _ _ _ _ _ _ _ _ _ _ _ _ _ _ w1 hB
set_option maxRecDepth 100000 in
set_option maxHeartbeats 4000000 in
theorem r21f {z1 z2 z4 z5 z6 z7 z8 z9 z10 z11 z12 z13 z14 z15 z16 z18 z20 z21 z22 z23 z24 z25 z26 z27 z28 z29 z30 z31 z32 z33 z34 z35 z36 z37 z38 z39 z40 z41 z42 z43 z44 z45 z46 z47 z48 z49 z50 z51 z52 z53 z54 z55 z56 z57 z58 z59 z60 z61 z62 z63 z64 z65 z66 z67 z68 z69 z70 z71 z72 z73 z74 z75 z76 z77 z78 z79 z80 z81 z82 z83 z84 z85 z86 z87 z88 z89 z90 z91 z92 z93 z94 z95 z96 z97 z98 z99 z100 z101 z102 z103 z104 z105 z106 z107 z108 z109 z110 z111 z112 z113 z114 z115 z116 z117 z118 z119 z120 z121 z122 z123 z124 z125 z126 z127 z128 z129 z130 z131 z132 z133 z134 z135 z136 z137 z138 z139 z140 z141 z142 z143 z144 z145 z146 z147 z148 z149 z150 z151 z152 z153 z154 z155 z156 z157 z158 z159 z160 z161 z162 z163 z164 z165 z166 z167 z168 z169 z170 z171 z172 z173 z174 z175 z176 z177 z178 z179 z180 z181 z182 z183 z184 z185 z186 z187 z188 z189 z190 z191 z192 z193 z194 z195 z196 z197 z198 z199 : Value} (wr : World) (c c5 b o b5 o5 k q1 : Nat) (l : List Ent) (hkl : k < l.length) (HKN : Kept (((k : Int) != (q1 : Int)) = true)) (HKE : Kept (((k : Int) == (q1 : Int)) = false))
    (hb5 : b5 < wr.heap.size) (hcl5 : ∀ j u, (l[k]'hkl).cs[j]? = some u → wr.cell? ⟨b5, o5 + k * 8 + j, none⟩ = some u) (hb0 : b < wr.heap.size) (hcl : ∀ j u, (l[k]'hkl).cs[j]? = some u → wr.cell? ⟨b, o + k * 8 + j, none⟩ = some u) (Q : Exit → Act → World → Prop)
    (hQ : ∀ (u157 u158 u159 u160 u161 u162 u163 u164 u165 u166 u167 u168 u169 u170 u171 u172 u173 u174 u175 u176 u177 u178 u179 u180 u181 u182 : Value) (w' : World), Below wr.heap.size wr w' → Q .normal ⟨#[.slice (some ⟨b, o, none⟩) l.length c, z1, z2, .int .i64 (q1 : Int), z4, z5, z6, z7, z8, z9, z10, z11, z12, z13, z14, z15, z16, .slice (some ⟨b5, o5, none⟩) l.length c5, z18, .int .i64 (k : Int), z20, z21, z22, z23, z24, z25, z26, z27, z28, z29, z30, z31, z32, z33, z34, z35, z36, z37, z38, z39, z40, z41, z42, z43, z44, z45, z46, z47, z48, z49, z50, z51, z52, z53, z54, z55, z56, z57, z58, z59, z60, z61, z62, z63, z64, z65, z66, z67, z68, z69, z70, z71, z72, z73, z74, z75, z76, z77, z78, z79, z80, z81, z82, z83, z84, z85, z86, z87, z88, z89, z90, z91, z92, z93, z94, z95, z96, z97, z98, z99, z100, z101, z102, z103, z104, z105, z106, z107, z108, z109, z110, z111, z112, z113, z114, z115, z116, z117, z118, z119, z120, z121, z122, z123, z124, z125, z126, z127, z128, z129, z130, z131, z132, z133, z134, z135, z136, z137, z138, z139, z140, z141, z142, z143, z144, z145, z146, z147, z148, z149, z150, z151, z152, z153, z154, z155, z156, u157, u158, u159, u160, u161, u162, u163, u164, u165, u166, u167, u168, u169, u170, u171, u172, u173, u174, u175, u176, u177, u178, u179, u180, u181, u182, .bool false, z184, z185, z186, z187, z188, z189, z190, z191, z192, z193, z194, z195, z196, z197, z198, z199], []⟩ w') :
    Code.wp Try.prog (reg 21) Q ⟨#[.slice (some ⟨b, o, none⟩) l.length c, z1, z2, .int .i64 (q1 : Int), z4, z5, z6, z7, z8, z9, z10, z11, z12, z13, z14, z15, z16, .slice (some ⟨b5, o5, none⟩) l.length c5, z18, .int .i64 (k : Int), z20, z21, z22, z23, z24, z25, z26, z27, z28, z29, z30, z31, z32, z33, z34, z35, z36, z37, z38, z39, z40, z41, z42, z43, z44, z45, z46, z47, z48, z49, z50, z51, z52, z53, z54, z55, z56, z57, z58, z59, z60, z61, z62, z63, z64, z65, z66, z67, z68, z69, z70, z71, z72, z73, z74, z75, z76, z77, z78, z79, z80, z81, z82, z83, z84, z85, z86, z87, z88, z89, z90, z91, z92, z93, z94, z95, z96, z97, z98, z99, z100, z101, z102, z103, z104, z105, z106, z107, z108, z109, z110, z111, z112, z113, z114, z115, z116, z117, z118, z119, z120, z121, z122, z123, z124, z125, z126, z127, z128, z129, z130, z131, z132, z133, z134, z135, z136, z137, z138, z139, z140, z141, z142, z143, z144, z145, z146, z147, z148, z149, z150, z151, z152, z153, z154, z155, z156, z157, z158, z159, z160, z161, z162, z163, z164, z165, z166, z167, z168, z169, z170, z171, z172, z173, z174, z175, z176, z177, z178, z179, z180, z181, z182, z183, z184, z185, z186, z187, z188, z189, z190, z191, z192, z193, z194, z195, z196, z197, z198, z199], []⟩ wr := by
  conv => arg 2; whnf
  have hne := fun w => run_neq_ent (l[k]'hkl) (l[k]'hkl) w
  simp only [decide_true, Bool.not_true] at hne
  refine region_tell (wr.heap.size) (G := fun _ => True) (ts := [
      .is (.int .i64 (k : Int)),
      .is (.int .i64 (q1 : Int)),
      .is (.bool true),
      .is (.bool true),
      .is (.slice (some ⟨b5, o5, none⟩) l.length c5),
      .is (.int .i64 (k : Int)),
      .is (.pointer (some ⟨b5, o5 + k * 8, none⟩)),
      .is ((l[k]'hkl).v),
      .is (.slice (some ⟨b, o, none⟩) l.length c),
      .is (.int .i64 (k : Int)),
      .is (.pointer (some ⟨b, o + k * 8, none⟩)),
      .is ((l[k]'hkl).v),
      .is (.bool false),
      .is (.bool false),
      .is (.bool false),
      .is (.int .i64 (k : Int)),
      .is (.int .i64 (q1 : Int)),
      .is (.bool false),
      .is (.bool false),
      .is (undef),
      .is (undef),
      .is (undef),
      .is (undef),
      .is (undef),
      .is (undef),
      .is (.bool false),
      .is (.bool false)]) (fin := []) (cs := []) (by kernel_rfl) rfl (by kernel_rfl) (by kernel_rfl) ⟨trivial, trivial, trivial, trivial, trivial, trivial, trivial, trivial, trivial, trivial, trivial, trivial, trivial, trivial, trivial, trivial, trivial, trivial, trivial, trivial, trivial, trivial, trivial, trivial, trivial, trivial, trivial, trivial⟩ (fun _ _ _ _ => trivial) (by simp) (by simp) trivial
    ⟨?_, ?_, ?_, ?_, ?_, ?_, ?_, ?_, ?_, ?_, ?_, ?_, ?_, ?_, ?_, ?_, ?_, ?_, ?_, ?_, ?_, ?_, ?_, ?_, ?_, ?_, ?_, trivial⟩ ?_
  · intro vals w1 hB _ hd
    clear hd
    refine one_value (v := Value.int .i64 (k : Int)) rfl ?_ (post_is rfl)
    kernel_rfl
  · intro vals w1 hB _ hd
    clear hd
    refine one_value (v := Value.int .i64 (q1 : Int)) rfl ?_ (post_is rfl)
    kernel_rfl
  · intro vals w1 hB _ hd
    clear hd
    refine one_value (v := Value.bool true) rfl ?_ (post_is rfl)
    have hk := HKN.out; refine Eq.trans (b := (execOp (Act.eval ⟨#[], []⟩) { dst := none, op := Op.binOp BinOp.neq 3 (.const (Value.int .i64 (k : Int))) (.const (Value.int .i64 (q1 : Int))) 3, type := 0, pos := "x", after := #[], guard := none }).run Try.prog w1) (by kernel_rfl) ?_; go_simp
  · intro vals w1 hB _ hd
    clear hd
    refine one_value (v := Value.bool true) rfl ?_ (post_is rfl)
    kernel_rfl
  · intro vals w1 hB _ hd
    clear hd
    refine one_value_g (v := Value.slice (some ⟨b5, o5, none⟩) l.length c5) (by kernel_rfl) ?_ (post_is rfl)
    kernel_rfl
  · intro vals w1 hB _ hd
    clear hd
    refine one_value_g (v := Value.int .i64 (k : Int)) (by kernel_rfl) ?_ (post_is rfl)
    kernel_rfl
  · intro vals w1 hB _ hd
    clear hd
    refine one_value_g (v := Value.pointer (some ⟨b5, o5 + k * 8, none⟩)) (by kernel_rfl) ?_ (post_is rfl)
    refine Eq.trans (b := (execOp (Act.eval ⟨#[], []⟩) { dst := none, op := Op.indexAddr 23 (.const (Value.slice (some ⟨b5, o5, none⟩) l.length c5)) (.const (Value.int .i64 (k : Int))), type := 0, pos := "x", after := #[], guard := none }).run Try.prog w1) (by kernel_rfl) ?_; go_simp; try (intro h; omega)
  · intro vals w1 hB _ hd
    clear hd
    refine one_value_g (v := (l[k]'hkl).v) (by kernel_rfl) ?_ (post_is rfl)
    exact exec_load_row rfl (b := b5) (off := o5 + k * 8) (by kernel_rfl) (l[k]'hkl).cs (fun j u hu => (hB.cell (p := ⟨b5, o5 + k * 8 + j, none⟩) hb5).trans (hcl5 j u hu)) Try.underlying27 rfl (by kernel_rfl)
  · intro vals w1 hB _ hd
    clear hd
    refine one_value_g (v := Value.slice (some ⟨b, o, none⟩) l.length c) (by kernel_rfl) ?_ (post_is rfl)
    kernel_rfl
  · intro vals w1 hB _ hd
    clear hd
    refine one_value_g (v := Value.int .i64 (k : Int)) (by kernel_rfl) ?_ (post_is rfl)
    kernel_rfl
  · intro vals w1 hB _ hd
    clear hd
    refine one_value_g (v := Value.pointer (some ⟨b, o + k * 8, none⟩)) (by kernel_rfl) ?_ (post_is rfl)
    refine Eq.trans (b := (execOp (Act.eval ⟨#[], []⟩) { dst := none, op := Op.indexAddr 23 (.const (Value.slice (some ⟨b, o, none⟩) l.length c)) (.const (Value.int .i64 (k : Int))), type := 0, pos := "x", after := #[], guard := none }).run Try.prog w1) (by kernel_rfl) ?_; go_simp; try (intro h; omega)
  · intro vals w1 hB _ hd
    clear hd
    refine one_value_g (v := (l[k]'hkl).v) (by kernel_rfl) ?_ (post_is rfl)
    exact exec_load_row rfl (b := b) (off := o + k * 8) (by kernel_rfl) (l[k]'hkl).cs (fun j u hu => (hB.cell (p := ⟨b, o + k * 8 + j, none⟩) hb0).trans (hcl j u hu)) Try.underlying27 rfl (by kernel_rfl)
  · intro vals w1 hB _ hd
    clear hd
    refine one_value_g (v := Value.bool false) (by kernel_rfl) ?_ (post_is rfl)
    have hn := hne w1; refine Eq.trans (b := (execOp (Act.eval ⟨#[], []⟩) { dst := none, op := Op.binOp BinOp.neq 27 (.const ((l[k]'hkl).v)) (.const ((l[k]'hkl).v)) 27, type := 0, pos := "x", after := #[], guard := none }).run Try.prog w1) (by kernel_rfl) ?_; go_simp
  · intro vals w1 hB _ hd
    clear hd
    refine one_value (v := Value.bool false) rfl ?_ (post_is rfl)
    kernel_rfl
  · intro vals w1 hB _ hd
    clear hd
    refine one_value (v := Value.bool false) rfl ?_ (post_is rfl)
    kernel_rfl
  · intro vals w1 hB _ hd
    clear hd
    refine one_value_g (v := Value.int .i64 (k : Int)) (by kernel_rfl) ?_ (post_is rfl)
    kernel_rfl
  · intro vals w1 hB _ hd
    clear hd
    refine one_value_g (v := Value.int .i64 (q1 : Int)) (by kernel_rfl) ?_ (post_is rfl)
    kernel_rfl
  · intro vals w1 hB _ hd
    clear hd
    refine one_value_g (v := Value.bool false) (by kernel_rfl) ?_ (post_is rfl)
    have hk := HKE.out; refine Eq.trans (b := (execOp (Act.eval ⟨#[], []⟩) { dst := none, op := Op.binOp BinOp.eql 3 (.const (Value.int .i64 (k : Int))) (.const (Value.int .i64 (q1 : Int))) 3, type := 0, pos := "x", after := #[], guard := none }).run Try.prog w1) (by kernel_rfl) ?_; go_simp
  · intro vals w1 hB _ hd
    clear hd
    refine one_value_g (v := Value.bool false) (by kernel_rfl) ?_ (post_is rfl)
    kernel_rfl
  · intro vals w1 hB _ hd
    clear hd
    exact one_not (by kernel_rfl) (post_is rfl)
  · intro vals w1 hB _ hd
    clear hd
    exact one_not (by kernel_rfl) (post_is rfl)
  · intro vals w1 hB _ hd
    clear hd
    exact one_not (by kernel_rfl) (post_is rfl)
  · intro vals w1 hB _ hd
    clear hd
    exact one_not (by kernel_rfl) (post_is rfl)
  · intro vals w1 hB _ hd
    clear hd
    exact one_not (by kernel_rfl) (post_is rfl)
  · intro vals w1 hB _ hd
    clear hd
    exact one_not (by kernel_rfl) (post_is rfl)
  · intro vals w1 hB _ hd
    clear hd
    refine one_value_g (v := Value.bool false) (by kernel_rfl) ?_ (post_is rfl)
    kernel_rfl
  · intro vals w1 hB _ hd
    clear hd
    refine one_value (v := Value.bool false) rfl ?_ (post_is rfl)
    kernel_rfl
  intro vals w1 hB _ hr
  simp only [fillT, Tell.is, Act.put, List.setIfInBounds_toArray, List.set_cons_zero, List.set_cons_succ]
  exact hQ _ _ _ _ _ _ _ _ _ _ _ _ _ _ _ _ _ _ _ _ _ _ _ _ _ _ w1 hB
end Go.Proofs.Ytdfcbfcnanpolaa
