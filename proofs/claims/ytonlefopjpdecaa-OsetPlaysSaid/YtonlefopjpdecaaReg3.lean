/- The regions of OsetPlays that draw their order, each shown apart. -/
import Derived.Test.YtonlefopjpdecaaSet3
import Derived.Lib.MinMax
namespace Go.Proofs.Ytonlefopjpdecaa
open Go.RowKit Go.Maps

def findRegion (id : Nat) : Code → Option Code
  | .region i ops d => if i = id then some (.region i ops d) else none
  | .seq a b => match findRegion id a with
    | some c => some c
    | none => findRegion id b
  | .cond _ a b => match findRegion id a with
    | some c => some c
    | none => findRegion id b
  | .block _ c => findRegion id c
  | .loop c => findRegion id c
  | .scope c => findRegion id c
  | _ => none
noncomputable def reg (id : Nat) : Code := (Try.f6.body.bind (findRegion id)).getD .skip
set_option maxRecDepth 100000 in
set_option maxHeartbeats 4000000 in
theorem rc12 {z0 z2 z3 z4 z5 z6 z10 z12 z13 z14 z15 z16 z17 z18 z19 z20 z21 z22 z23 z24 z25 z26 z27 z28 z29 z30 z31 z32 z33 z34 z35 z36 z37 z38 z39 z40 z41 z42 z43 z44 z45 z46 z47 z48 z49 z50 z51 z52 z53 z54 z55 z56 z57 z58 z59 z60 z61 z62 z63 z64 z65 z66 z67 z68 z69 z70 z71 z72 z73 z74 z75 z76 z77 z78 z79 z80 z81 z82 z83 z84 z85 z86 z87 z88 z89 z90 z91 z92 z93 z94 z95 z96 z97 z98 z99 z100 z101 z102 z103 z104 z105 z106 z107 z108 z109 z110 z111 z112 z113 z114 z115 z116 z117 z118 z119 z120 z121 z122 z123 z124 z125 z126 z127 z128 z129 z130 z131 z132 z133 z134 z135 z136 z137 z138 z139 z140 z141 z142 z143 z144 z145 z146 z147 z148 z149 z150 z151 z152 z153 z154 z155 z156 z157 z158 z159 z160 z161 z162 z163 z164 z165 z166 z167 z168 z169 z170 z171 z172 z173 z174 z175 z176 z177 z178 z179 z180 z181 z182 z183 z184 z185 z186 z187 z188 z189 z190 z191 : Value} (wr3 : World) (B0 S M T K i b o c c1 : Nat) (v vL vP : Value) (L : List (List UInt8)) (P : List Nat) (A1 : Option Addr) (l : List (List UInt8)) (hlt1 : i < l.length) (hlt1' : (i : Int) < (l.length : Int))
    (HS : Kept (SetAt wr3 B0 S M v K L)) (HT : Kept (RefAt wr3 B0 T vL vP K L P)) (HRW : Kept (∀ w1, Below wr3.heap.size wr3 w1 → RdB w1 A1 (l[i]'hlt1))) (HQC : Kept (∀ w1, Below wr3.heap.size wr3 w1 → w1.cell? ⟨b, o + i, none⟩ = some (.slice A1 (l[i]'hlt1).length c1))) (th : Bool) (RK : Nat) (hsm : (l[i]'hlt1).length ≤ maxLen) (HTH : Kept (decide ((l[i]'hlt1) ∈ L) = th)) (HRK : Kept (rankOf L (l[i]'hlt1) = RK)) (Q : Exit → Act → World → Prop)
    (hQ : ∀ (u58 u59 u60 u61 u62 u63 u64 u65 u66 u67 u68 u69 u70 u71 u72 u73 u74 u75 u76 u77 u78 u79 : Value) (w' : World), Below wr3.heap.size wr3 w' → Q .normal ⟨#[z0, .slice (some ⟨b, o, none⟩) l.length c, z2, z3, z4, z5, z6, .pointer (some ⟨S, 0, none⟩), .pointer (some ⟨T, 0, none⟩), .int .i64 (i : Int), z10, .bool th, z12, z13, z14, z15, z16, z17, z18, z19, z20, z21, z22, z23, z24, z25, z26, z27, z28, z29, z30, z31, z32, z33, z34, z35, z36, z37, z38, z39, z40, z41, z42, z43, z44, z45, z46, z47, z48, z49, z50, z51, z52, z53, z54, z55, z56, z57, u58, u59, u60, u61, u62, u63, u64, u65, u66, u67, u68, u69, u70, u71, u72, u73, u74, u75, u76, u77, u78, u79, .bool false, z81, z82, z83, z84, z85, z86, z87, z88, z89, z90, z91, z92, z93, z94, z95, z96, z97, z98, z99, z100, z101, z102, z103, z104, z105, z106, z107, z108, z109, z110, z111, z112, z113, z114, z115, z116, z117, z118, z119, z120, z121, z122, z123, z124, z125, z126, z127, z128, z129, z130, z131, z132, z133, z134, z135, z136, z137, z138, z139, z140, z141, z142, z143, z144, z145, z146, z147, z148, z149, z150, z151, z152, z153, z154, z155, z156, z157, z158, z159, z160, z161, z162, z163, z164, z165, z166, z167, z168, z169, z170, z171, z172, z173, z174, z175, z176, z177, z178, z179, z180, z181, z182, z183, z184, z185, z186, z187, z188, z189, z190, z191], []⟩ w') :
    Code.wp Try.prog (reg 12) Q ⟨#[z0, .slice (some ⟨b, o, none⟩) l.length c, z2, z3, z4, z5, z6, .pointer (some ⟨S, 0, none⟩), .pointer (some ⟨T, 0, none⟩), .int .i64 (i : Int), z10, .bool th, z12, z13, z14, z15, z16, z17, z18, z19, z20, z21, z22, z23, z24, z25, z26, z27, z28, z29, z30, z31, z32, z33, z34, z35, z36, z37, z38, z39, z40, z41, z42, z43, z44, z45, z46, z47, z48, z49, z50, z51, z52, z53, z54, z55, z56, z57, z58, z59, z60, z61, z62, z63, z64, z65, z66, z67, z68, z69, z70, z71, z72, z73, z74, z75, z76, z77, z78, z79, z80, z81, z82, z83, z84, z85, z86, z87, z88, z89, z90, z91, z92, z93, z94, z95, z96, z97, z98, z99, z100, z101, z102, z103, z104, z105, z106, z107, z108, z109, z110, z111, z112, z113, z114, z115, z116, z117, z118, z119, z120, z121, z122, z123, z124, z125, z126, z127, z128, z129, z130, z131, z132, z133, z134, z135, z136, z137, z138, z139, z140, z141, z142, z143, z144, z145, z146, z147, z148, z149, z150, z151, z152, z153, z154, z155, z156, z157, z158, z159, z160, z161, z162, z163, z164, z165, z166, z167, z168, z169, z170, z171, z172, z173, z174, z175, z176, z177, z178, z179, z180, z181, z182, z183, z184, z185, z186, z187, z188, z189, z190, z191], []⟩ wr3 := by
  conv => arg 2; whnf
  refine region_tell (wr3.heap.size) (G := fun _ => True) (ts := [
      .is (.pointer (some ⟨S, 0, none⟩)),
      .is (.slice (some ⟨b, o, none⟩) l.length c),
      .is (.int .i64 (i : Int)),
      .is (.pointer (some ⟨b, o + i, none⟩)),
      .is (.slice A1 l[i].length c1),
      .draws (.bool th),
      .is (.bool th),
      .is (.bool false),
      .is (.bool false),
      .is (.pointer (some ⟨S, 0, none⟩)),
      .is (.slice (some ⟨b, o, none⟩) l.length c),
      .is (.int .i64 (i : Int)),
      .is (.pointer (some ⟨b, o + i, none⟩)),
      .is (.slice A1 l[i].length c1),
      .draws (.int .i64 (RK : Nat)),
      .is (.pointer (some ⟨T, 0, none⟩)),
      .is (.slice (some ⟨b, o, none⟩) l.length c),
      .is (.int .i64 (i : Int)),
      .is (.pointer (some ⟨b, o + i, none⟩)),
      .is (.slice A1 l[i].length c1),
      .draws (.int .i64 (RK : Nat)),
      .is (.bool false),
      .is (.bool false)]) (fin := []) (cs := []) (by kernel_rfl) rfl (by kernel_rfl) (by kernel_rfl) ⟨trivial, trivial, trivial, trivial, trivial, trivial, trivial, trivial, trivial, trivial, trivial, trivial, trivial, trivial, trivial, trivial, trivial, trivial, trivial, trivial, trivial, trivial, trivial, trivial⟩ (fun _ _ _ _ => trivial) (by simp) (by simp) trivial
    ⟨?_, ?_, ?_, ?_, ?_, ?_, ?_, ?_, ?_, ?_, ?_, ?_, ?_, ?_, ?_, ?_, ?_, ?_, ?_, ?_, ?_, ?_, ?_, trivial⟩ ?_
  · intro vals w1' hB _ hd
    clear hd
    refine one_value (v := Value.pointer (some ⟨S, 0, none⟩)) rfl ?_ (post_is rfl)
    kernel_rfl
  · intro vals w1' hB _ hd
    clear hd
    refine one_value (v := Value.slice (some ⟨b, o, none⟩) l.length c) rfl ?_ (post_is rfl)
    kernel_rfl
  · intro vals w1' hB _ hd
    clear hd
    refine one_value (v := Value.int .i64 (i : Int)) rfl ?_ (post_is rfl)
    kernel_rfl
  · intro vals w1' hB _ hd
    clear hd
    refine one_value (v := Value.pointer (some ⟨b, o + i, none⟩)) rfl ?_ (post_is rfl)
    refine Eq.trans (b := (execOp (Act.eval ⟨#[], []⟩) { dst := none, op := Op.indexAddr 22 (.const (Value.slice (some ⟨b, o, none⟩) l.length c)) (.const (Value.int .i64 (i : Int))), type := 0, pos := "x", after := #[], guard := none }).run Try.prog w1') (by kernel_rfl) ?_; go_simp; try (intro h; omega)
  · intro vals w1' hB _ hd
    clear hd
    refine one_value (v := Value.slice A1 l[i].length c1) rfl ?_ (post_is rfl)
    have hq := HQC.out w1' hB; refine Eq.trans (b := (execOp (Act.eval ⟨#[], []⟩) { dst := none, op := Op.load 25 (.const (Value.pointer (some ⟨b, o + i, none⟩))), type := 0, pos := "x", after := #[], guard := none }).run Try.prog w1') (by kernel_rfl) ?_; go_simp
  · intro vals w1' hB _ hd
    clear hd
    refine one_calls (f := 12) (args := #[.pointer (some ⟨S, 0, none⟩), .slice A1 l[i].length c1]) (w1 := w1') rfl ?_ ?_
    · kernel_rfl
    refine (has_key (HS.out.past hB) A1 _ c1 l[i] rfl (HRW.out w1' hB) hsm).mono ?_
    rintro e1 w2' ⟨rfl, kd, h2⟩
    rw [HTH.out]
    exact ⟨_, rfl, post_draws rfl (by rw [h2]; exact below_drewN (Below.refl _ _) kd)⟩
  · intro vals w1' hB _ hd
    clear hd
    refine one_value (v := Value.bool th) rfl ?_ (post_is rfl)
    kernel_rfl
  · intro vals w1' hB _ hd
    clear hd
    refine one_value (v := Value.bool false) rfl ?_ (post_is rfl)
    refine Eq.trans (b := (execOp (Act.eval ⟨#[], []⟩) { dst := none, op := Op.binOp BinOp.neq 4 (.const (Value.bool th)) (.const (Value.bool th)) 4, type := 0, pos := "x", after := #[], guard := none }).run Try.prog w1') (by kernel_rfl) ?_; go_simp
  · intro vals w1' hB _ hd
    clear hd
    refine one_value (v := Value.bool false) rfl ?_ (post_is rfl)
    kernel_rfl
  · intro vals w1' hB _ hd
    clear hd
    refine one_value_g (v := Value.pointer (some ⟨S, 0, none⟩)) (by kernel_rfl) ?_ (post_is rfl)
    kernel_rfl
  · intro vals w1' hB _ hd
    clear hd
    refine one_value_g (v := Value.slice (some ⟨b, o, none⟩) l.length c) (by kernel_rfl) ?_ (post_is rfl)
    kernel_rfl
  · intro vals w1' hB _ hd
    clear hd
    refine one_value_g (v := Value.int .i64 (i : Int)) (by kernel_rfl) ?_ (post_is rfl)
    kernel_rfl
  · intro vals w1' hB _ hd
    clear hd
    refine one_value_g (v := Value.pointer (some ⟨b, o + i, none⟩)) (by kernel_rfl) ?_ (post_is rfl)
    refine Eq.trans (b := (execOp (Act.eval ⟨#[], []⟩) { dst := none, op := Op.indexAddr 22 (.const (Value.slice (some ⟨b, o, none⟩) l.length c)) (.const (Value.int .i64 (i : Int))), type := 0, pos := "x", after := #[], guard := none }).run Try.prog w1') (by kernel_rfl) ?_; go_simp; try (intro h; omega)
  · intro vals w1' hB _ hd
    clear hd
    refine one_value_g (v := Value.slice A1 l[i].length c1) (by kernel_rfl) ?_ (post_is rfl)
    have hq := HQC.out w1' hB; refine Eq.trans (b := (execOp (Act.eval ⟨#[], []⟩) { dst := none, op := Op.load 25 (.const (Value.pointer (some ⟨b, o + i, none⟩))), type := 0, pos := "x", after := #[], guard := none }).run Try.prog w1') (by kernel_rfl) ?_; go_simp
  · intro vals w1' hB _ hd
    clear hd
    refine one_calls_g (f := 14) (args := #[.pointer (some ⟨S, 0, none⟩), .slice A1 l[i].length c1]) (w1 := w1') (by kernel_rfl) ?_ ?_
    · kernel_rfl
    refine (rank_set (HS.out.past hB) A1 _ c1 l[i] rfl (HRW.out w1' hB)).mono ?_
    rintro e1 w2' ⟨rfl, h2⟩
    rw [HRK.out]
    exact ⟨_, rfl, post_draws rfl h2⟩
  · intro vals w1' hB _ hd
    clear hd
    refine one_value_g (v := Value.pointer (some ⟨T, 0, none⟩)) (by kernel_rfl) ?_ (post_is rfl)
    kernel_rfl
  · intro vals w1' hB _ hd
    clear hd
    refine one_value_g (v := Value.slice (some ⟨b, o, none⟩) l.length c) (by kernel_rfl) ?_ (post_is rfl)
    kernel_rfl
  · intro vals w1' hB _ hd
    clear hd
    refine one_value_g (v := Value.int .i64 (i : Int)) (by kernel_rfl) ?_ (post_is rfl)
    kernel_rfl
  · intro vals w1' hB _ hd
    clear hd
    refine one_value_g (v := Value.pointer (some ⟨b, o + i, none⟩)) (by kernel_rfl) ?_ (post_is rfl)
    refine Eq.trans (b := (execOp (Act.eval ⟨#[], []⟩) { dst := none, op := Op.indexAddr 22 (.const (Value.slice (some ⟨b, o, none⟩) l.length c)) (.const (Value.int .i64 (i : Int))), type := 0, pos := "x", after := #[], guard := none }).run Try.prog w1') (by kernel_rfl) ?_; go_simp; try (intro h; omega)
  · intro vals w1' hB _ hd
    clear hd
    refine one_value_g (v := Value.slice A1 l[i].length c1) (by kernel_rfl) ?_ (post_is rfl)
    have hq := HQC.out w1' hB; refine Eq.trans (b := (execOp (Act.eval ⟨#[], []⟩) { dst := none, op := Op.load 25 (.const (Value.pointer (some ⟨b, o + i, none⟩))), type := 0, pos := "x", after := #[], guard := none }).run Try.prog w1') (by kernel_rfl) ?_; go_simp
  · intro vals w1' hB _ hd
    clear hd
    refine one_calls_g (f := 17) (args := #[.pointer (some ⟨T, 0, none⟩), .slice A1 l[i].length c1]) (w1 := w1') (by kernel_rfl) ?_ ?_
    · kernel_rfl
    refine (ref_rank (HT.out.past hB) A1 _ c1 l[i] rfl (HRW.out w1' hB)).mono ?_
    rintro e1 w2' ⟨rfl, h2⟩
    rw [HRK.out]
    exact ⟨_, rfl, post_draws rfl h2⟩
  · intro vals w1' hB _ hd
    clear hd
    refine one_value_g (v := Value.bool false) (by kernel_rfl) ?_ (post_is rfl)
    refine Eq.trans (b := (execOp (Act.eval ⟨#[], []⟩) { dst := none, op := Op.binOp BinOp.neq 3 (.const (Value.int .i64 (RK : Nat))) (.const (Value.int .i64 (RK : Nat))) 3, type := 0, pos := "x", after := #[], guard := none }).run Try.prog w1') (by kernel_rfl) ?_; go_simp
  · intro vals w1' hB _ hd
    clear hd
    refine one_value (v := Value.bool false) rfl ?_ (post_is rfl)
    kernel_rfl
  intro vals w1' hB _ hr
  simp only [fillT, Tell.is, Tell.draws, Act.put, List.setIfInBounds_toArray, List.set_cons_zero, List.set_cons_succ]
  exact hQ _ _ _ _ _ _ _ _ _ _ _ _ _ _ _ _ _ _ _ _ _ _ w1' hB
set_option maxRecDepth 100000 in
set_option maxHeartbeats 4000000 in
theorem rc16 {z0 z2 z3 z4 z5 z6 z10 z11 z18 z19 z20 z21 z22 z23 z24 z25 z26 z27 z28 z29 z30 z31 z32 z33 z34 z35 z36 z37 z38 z39 z40 z41 z42 z43 z44 z45 z46 z47 z48 z49 z50 z51 z52 z53 z54 z55 z56 z57 z58 z59 z60 z61 z62 z63 z64 z65 z66 z67 z68 z69 z70 z71 z72 z73 z74 z75 z76 z77 z78 z79 z80 z81 z82 z83 z84 z85 z86 z87 z88 z89 z90 z91 z92 z93 z94 z95 z96 z97 z98 z99 z100 z101 z102 z103 z104 z105 z106 z107 z108 z109 z110 z111 z112 z113 z114 z115 z116 z117 z118 z119 z120 z121 z122 z123 z124 z125 z126 z127 z128 z129 z130 z131 z132 z133 z134 z135 z136 z137 z138 z139 z140 z141 z142 z143 z144 z145 z146 z147 z148 z149 z150 z151 z152 z153 z154 z155 z156 z157 z158 z159 z160 z161 z162 z163 z164 z165 z166 z167 z168 z169 z170 z171 z172 z173 z174 z175 z176 z177 z178 z179 z180 z181 z182 z183 z184 z185 z186 z187 z188 z189 z190 z191 : Value} (wr6 : World) (B0 S M T K i b o c c1 : Nat) (v vL vP : Value) (L1 : List (List UInt8)) (P1 : List Nat) (A1 : Option Addr) (l : List (List UInt8)) (hlt1 : i < l.length) (hlt1' : (i : Int) < (l.length : Int))
    (HS : Kept (SetAt wr6 B0 S M v K L1)) (HT : Kept (RefAt wr6 B0 T vL vP K L1 P1)) (HRW : Kept (∀ w1, Below wr6.heap.size wr6 w1 → RdB w1 A1 (l[i]'hlt1))) (HQC : Kept (∀ w1, Below wr6.heap.size wr6 w1 → w1.cell? ⟨b, o + i, none⟩ = some (.slice A1 (l[i]'hlt1).length c1))) (pa : Nat) (fr ok : Bool) (RK cL : Nat) (AL : Option Addr) (HRK : Kept (rankOf L1 (l[i]'hlt1) = RK)) (HZ1 : Kept (∀ wk, Below wr6.heap.size wr6 wk → wk.cell? ⟨T, 1, none⟩ = some (.slice AL L1.length cL))) (Q : Exit → Act → World → Prop)
    (hQ : ∀ (u101 u102 u103 u104 u105 u106 u107 u108 u109 u110 u111 u112 u113 u114 u115 u116 u117 u118 u119 u120 u121 u122 u123 u124 u125 u126 u127 u128 u129 u130 u131 u132 u133 u134 u135 u136 u137 : Value) (w' : World), Below wr6.heap.size wr6 w' → Q .normal ⟨#[z0, .slice (some ⟨b, o, none⟩) l.length c, z2, z3, z4, z5, z6, .pointer (some ⟨S, 0, none⟩), .pointer (some ⟨T, 0, none⟩), .int .i64 (i : Int), z10, z11, .int .i64 (pa : Nat), .bool fr, .bool ok, .int .i64 (pa : Nat), .bool fr, .bool ok, z18, z19, z20, z21, z22, z23, z24, z25, z26, z27, z28, z29, z30, z31, z32, z33, z34, z35, z36, z37, z38, z39, z40, z41, z42, z43, z44, z45, z46, z47, z48, z49, z50, z51, z52, z53, z54, z55, z56, z57, z58, z59, z60, z61, z62, z63, z64, z65, z66, z67, z68, z69, z70, z71, z72, z73, z74, z75, z76, z77, z78, z79, z80, z81, z82, z83, z84, z85, z86, z87, z88, z89, z90, z91, z92, z93, z94, z95, z96, z97, z98, z99, z100, u101, u102, u103, u104, u105, u106, u107, u108, u109, u110, u111, u112, u113, u114, u115, u116, u117, u118, u119, u120, u121, u122, u123, u124, u125, u126, u127, u128, u129, u130, u131, u132, u133, u134, u135, u136, u137, .bool false, z139, z140, z141, z142, z143, z144, z145, z146, z147, z148, z149, z150, z151, z152, z153, z154, z155, z156, z157, z158, z159, z160, z161, z162, z163, z164, z165, z166, z167, z168, z169, z170, z171, z172, z173, z174, z175, z176, z177, z178, z179, z180, z181, z182, z183, z184, z185, z186, z187, z188, z189, z190, z191], []⟩ w') :
    Code.wp Try.prog (reg 16) Q ⟨#[z0, .slice (some ⟨b, o, none⟩) l.length c, z2, z3, z4, z5, z6, .pointer (some ⟨S, 0, none⟩), .pointer (some ⟨T, 0, none⟩), .int .i64 (i : Int), z10, z11, .int .i64 (pa : Nat), .bool fr, .bool ok, .int .i64 (pa : Nat), .bool fr, .bool ok, z18, z19, z20, z21, z22, z23, z24, z25, z26, z27, z28, z29, z30, z31, z32, z33, z34, z35, z36, z37, z38, z39, z40, z41, z42, z43, z44, z45, z46, z47, z48, z49, z50, z51, z52, z53, z54, z55, z56, z57, z58, z59, z60, z61, z62, z63, z64, z65, z66, z67, z68, z69, z70, z71, z72, z73, z74, z75, z76, z77, z78, z79, z80, z81, z82, z83, z84, z85, z86, z87, z88, z89, z90, z91, z92, z93, z94, z95, z96, z97, z98, z99, z100, z101, z102, z103, z104, z105, z106, z107, z108, z109, z110, z111, z112, z113, z114, z115, z116, z117, z118, z119, z120, z121, z122, z123, z124, z125, z126, z127, z128, z129, z130, z131, z132, z133, z134, z135, z136, z137, z138, z139, z140, z141, z142, z143, z144, z145, z146, z147, z148, z149, z150, z151, z152, z153, z154, z155, z156, z157, z158, z159, z160, z161, z162, z163, z164, z165, z166, z167, z168, z169, z170, z171, z172, z173, z174, z175, z176, z177, z178, z179, z180, z181, z182, z183, z184, z185, z186, z187, z188, z189, z190, z191], []⟩ wr6 := by
  conv => arg 2; whnf
  refine region_tell (wr6.heap.size) (G := fun _ => True) (ts := [
      .is (.int .i64 (pa : Nat)),
      .is (.int .i64 (pa : Nat)),
      .is (.bool false),
      .is (.bool false),
      .is (.bool fr),
      .is (.bool fr),
      .is (.bool false),
      .is (.bool false),
      .is (.bool false),
      .is (.bool ok),
      .is (.bool ok),
      .is (.bool false),
      .is (.bool false),
      .is (.bool false),
      .is (.pointer (some ⟨S, 0, none⟩)),
      .draws (.int .i64 (L1.length : Nat)),
      .is (.pointer (some ⟨T, 0, none⟩)),
      .is (.pointer (some ⟨T, 0, none⟩)),
      .is (.pointer (some ⟨T, 1, none⟩)),
      .is (.slice AL L1.length cL),
      .is (.int .i64 (L1.length : Int)),
      .is (.bool false),
      .is (.bool false),
      .is (.bool false),
      .is (.pointer (some ⟨S, 0, none⟩)),
      .is (.slice (some ⟨b, o, none⟩) l.length c),
      .is (.int .i64 (i : Int)),
      .is (.pointer (some ⟨b, o + i, none⟩)),
      .is (.slice A1 l[i].length c1),
      .draws (.int .i64 (RK : Nat)),
      .is (.pointer (some ⟨T, 0, none⟩)),
      .is (.slice (some ⟨b, o, none⟩) l.length c),
      .is (.int .i64 (i : Int)),
      .is (.pointer (some ⟨b, o + i, none⟩)),
      .is (.slice A1 l[i].length c1),
      .draws (.int .i64 (RK : Nat)),
      .is (.bool false),
      .is (.bool false)]) (fin := []) (cs := []) (by kernel_rfl) rfl (by kernel_rfl) (by kernel_rfl) ⟨trivial, trivial, trivial, trivial, trivial, trivial, trivial, trivial, trivial, trivial, trivial, trivial, trivial, trivial, trivial, trivial, trivial, trivial, trivial, trivial, trivial, trivial, trivial, trivial, trivial, trivial, trivial, trivial, trivial, trivial, trivial, trivial, trivial, trivial, trivial, trivial, trivial, trivial, trivial⟩ (fun _ _ _ _ => trivial) (by simp) (by simp) trivial
    ⟨?_, ?_, ?_, ?_, ?_, ?_, ?_, ?_, ?_, ?_, ?_, ?_, ?_, ?_, ?_, ?_, ?_, ?_, ?_, ?_, ?_, ?_, ?_, ?_, ?_, ?_, ?_, ?_, ?_, ?_, ?_, ?_, ?_, ?_, ?_, ?_, ?_, ?_, trivial⟩ ?_
  · intro vals w1' hB _ hd
    clear hd
    refine one_value (v := Value.int .i64 (pa : Nat)) rfl ?_ (post_is rfl)
    kernel_rfl
  · intro vals w1' hB _ hd
    clear hd
    refine one_value (v := Value.int .i64 (pa : Nat)) rfl ?_ (post_is rfl)
    kernel_rfl
  · intro vals w1' hB _ hd
    clear hd
    refine one_value (v := Value.bool false) rfl ?_ (post_is rfl)
    refine Eq.trans (b := (execOp (Act.eval ⟨#[], []⟩) { dst := none, op := Op.binOp BinOp.neq 3 (.const (Value.int .i64 (pa : Nat))) (.const (Value.int .i64 (pa : Nat))) 3, type := 0, pos := "x", after := #[], guard := none }).run Try.prog w1') (by kernel_rfl) ?_; go_simp
  · intro vals w1' hB _ hd
    clear hd
    refine one_value (v := Value.bool false) rfl ?_ (post_is rfl)
    kernel_rfl
  · intro vals w1' hB _ hd
    clear hd
    refine one_value_g (v := Value.bool fr) (by kernel_rfl) ?_ (post_is rfl)
    kernel_rfl
  · intro vals w1' hB _ hd
    clear hd
    refine one_value_g (v := Value.bool fr) (by kernel_rfl) ?_ (post_is rfl)
    kernel_rfl
  · intro vals w1' hB _ hd
    clear hd
    refine one_value_g (v := Value.bool false) (by kernel_rfl) ?_ (post_is rfl)
    refine Eq.trans (b := (execOp (Act.eval ⟨#[], []⟩) { dst := none, op := Op.binOp BinOp.neq 4 (.const (Value.bool fr)) (.const (Value.bool fr)) 4, type := 0, pos := "x", after := #[], guard := none }).run Try.prog w1') (by kernel_rfl) ?_; go_simp
  · intro vals w1' hB _ hd
    clear hd
    refine one_value (v := Value.bool false) rfl ?_ (post_is rfl)
    kernel_rfl
  · intro vals w1' hB _ hd
    clear hd
    refine one_value (v := Value.bool false) rfl ?_ (post_is rfl)
    kernel_rfl
  · intro vals w1' hB _ hd
    clear hd
    refine one_value_g (v := Value.bool ok) (by kernel_rfl) ?_ (post_is rfl)
    kernel_rfl
  · intro vals w1' hB _ hd
    clear hd
    refine one_value_g (v := Value.bool ok) (by kernel_rfl) ?_ (post_is rfl)
    kernel_rfl
  · intro vals w1' hB _ hd
    clear hd
    refine one_value_g (v := Value.bool false) (by kernel_rfl) ?_ (post_is rfl)
    refine Eq.trans (b := (execOp (Act.eval ⟨#[], []⟩) { dst := none, op := Op.binOp BinOp.neq 4 (.const (Value.bool ok)) (.const (Value.bool ok)) 4, type := 0, pos := "x", after := #[], guard := none }).run Try.prog w1') (by kernel_rfl) ?_; go_simp
  · intro vals w1' hB _ hd
    clear hd
    refine one_value (v := Value.bool false) rfl ?_ (post_is rfl)
    kernel_rfl
  · intro vals w1' hB _ hd
    clear hd
    refine one_value (v := Value.bool false) rfl ?_ (post_is rfl)
    kernel_rfl
  · intro vals w1' hB _ hd
    clear hd
    refine one_value_g (v := Value.pointer (some ⟨S, 0, none⟩)) (by kernel_rfl) ?_ (post_is rfl)
    kernel_rfl
  · intro vals w1' hB _ hd
    clear hd
    refine one_calls_g (f := 10) (args := #[.pointer (some ⟨S, 0, none⟩)]) (w1 := w1') (by kernel_rfl) ?_ ?_
    · kernel_rfl
    refine (len_set (HS.out.past hB)).mono ?_
    rintro e1 w2' ⟨rfl, h2⟩
    exact ⟨_, rfl, post_draws rfl (by rw [h2]; exact Below.refl _ _)⟩
  · intro vals w1' hB _ hd
    clear hd
    refine one_value_g (v := Value.pointer (some ⟨T, 0, none⟩)) (by kernel_rfl) ?_ (post_is rfl)
    kernel_rfl
  · intro vals w1' hB _ hd
    clear hd
    refine one_value_g (v := Value.pointer (some ⟨T, 0, none⟩)) (by kernel_rfl) ?_ (post_is rfl)
    refine Eq.trans (b := (execOp (Act.eval ⟨#[], []⟩) { dst := none, op := Op.nilCheck (.const (Value.pointer (some ⟨T, 0, none⟩))), type := 0, pos := "x", after := #[], guard := none }).run Try.prog w1') (by kernel_rfl) ?_; go_simp
  · intro vals w1' hB _ hd
    clear hd
    refine one_value_g (v := Value.pointer (some ⟨T, 1, none⟩)) (by kernel_rfl) ?_ (post_is rfl)
    refine Eq.trans (b := (execOp (Act.eval ⟨#[], []⟩) { dst := none, op := Op.fieldAddr 45 (.const (Value.pointer (some ⟨T, 0, none⟩))) 1, type := 0, pos := "x", after := #[], guard := none }).run Try.prog w1') (by kernel_rfl) ?_; go_simp
  · intro vals w1' hB _ hd
    clear hd
    refine one_value_g (v := Value.slice AL L1.length cL) (by kernel_rfl) ?_ (post_is rfl)
    have hz := HZ1.out w1' hB; refine Eq.trans (b := (execOp (Act.eval ⟨#[], []⟩) { dst := none, op := Op.load 43 (.const (Value.pointer (some ⟨T, 1, none⟩))), type := 0, pos := "x", after := #[], guard := none }).run Try.prog w1') (by kernel_rfl) ?_; go_simp
  · intro vals w1' hB _ hd
    clear hd
    refine one_value_g (v := Value.int .i64 (L1.length : Int)) (by kernel_rfl) ?_ (post_is rfl)
    kernel_rfl
  · intro vals w1' hB _ hd
    clear hd
    refine one_value_g (v := Value.bool false) (by kernel_rfl) ?_ (post_is rfl)
    refine Eq.trans (b := (execOp (Act.eval ⟨#[], []⟩) { dst := none, op := Op.binOp BinOp.neq 3 (.const (Value.int .i64 (L1.length : Nat))) (.const (Value.int .i64 (L1.length : Int))) 3, type := 0, pos := "x", after := #[], guard := none }).run Try.prog w1') (by kernel_rfl) ?_; go_simp
  · intro vals w1' hB _ hd
    clear hd
    refine one_value (v := Value.bool false) rfl ?_ (post_is rfl)
    kernel_rfl
  · intro vals w1' hB _ hd
    clear hd
    refine one_value (v := Value.bool false) rfl ?_ (post_is rfl)
    kernel_rfl
  · intro vals w1' hB _ hd
    clear hd
    refine one_value_g (v := Value.pointer (some ⟨S, 0, none⟩)) (by kernel_rfl) ?_ (post_is rfl)
    kernel_rfl
  · intro vals w1' hB _ hd
    clear hd
    refine one_value_g (v := Value.slice (some ⟨b, o, none⟩) l.length c) (by kernel_rfl) ?_ (post_is rfl)
    kernel_rfl
  · intro vals w1' hB _ hd
    clear hd
    refine one_value_g (v := Value.int .i64 (i : Int)) (by kernel_rfl) ?_ (post_is rfl)
    kernel_rfl
  · intro vals w1' hB _ hd
    clear hd
    refine one_value_g (v := Value.pointer (some ⟨b, o + i, none⟩)) (by kernel_rfl) ?_ (post_is rfl)
    refine Eq.trans (b := (execOp (Act.eval ⟨#[], []⟩) { dst := none, op := Op.indexAddr 22 (.const (Value.slice (some ⟨b, o, none⟩) l.length c)) (.const (Value.int .i64 (i : Int))), type := 0, pos := "x", after := #[], guard := none }).run Try.prog w1') (by kernel_rfl) ?_; go_simp; try (intro h; omega)
  · intro vals w1' hB _ hd
    clear hd
    refine one_value_g (v := Value.slice A1 l[i].length c1) (by kernel_rfl) ?_ (post_is rfl)
    have hq := HQC.out w1' hB; refine Eq.trans (b := (execOp (Act.eval ⟨#[], []⟩) { dst := none, op := Op.load 25 (.const (Value.pointer (some ⟨b, o + i, none⟩))), type := 0, pos := "x", after := #[], guard := none }).run Try.prog w1') (by kernel_rfl) ?_; go_simp
  · intro vals w1' hB _ hd
    clear hd
    refine one_calls_g (f := 14) (args := #[.pointer (some ⟨S, 0, none⟩), .slice A1 l[i].length c1]) (w1 := w1') (by kernel_rfl) ?_ ?_
    · kernel_rfl
    refine (rank_set (HS.out.past hB) A1 _ c1 l[i] rfl (HRW.out w1' hB)).mono ?_
    rintro e1 w2' ⟨rfl, h2⟩
    rw [HRK.out]
    exact ⟨_, rfl, post_draws rfl h2⟩
  · intro vals w1' hB _ hd
    clear hd
    refine one_value_g (v := Value.pointer (some ⟨T, 0, none⟩)) (by kernel_rfl) ?_ (post_is rfl)
    kernel_rfl
  · intro vals w1' hB _ hd
    clear hd
    refine one_value_g (v := Value.slice (some ⟨b, o, none⟩) l.length c) (by kernel_rfl) ?_ (post_is rfl)
    kernel_rfl
  · intro vals w1' hB _ hd
    clear hd
    refine one_value_g (v := Value.int .i64 (i : Int)) (by kernel_rfl) ?_ (post_is rfl)
    kernel_rfl
  · intro vals w1' hB _ hd
    clear hd
    refine one_value_g (v := Value.pointer (some ⟨b, o + i, none⟩)) (by kernel_rfl) ?_ (post_is rfl)
    refine Eq.trans (b := (execOp (Act.eval ⟨#[], []⟩) { dst := none, op := Op.indexAddr 22 (.const (Value.slice (some ⟨b, o, none⟩) l.length c)) (.const (Value.int .i64 (i : Int))), type := 0, pos := "x", after := #[], guard := none }).run Try.prog w1') (by kernel_rfl) ?_; go_simp; try (intro h; omega)
  · intro vals w1' hB _ hd
    clear hd
    refine one_value_g (v := Value.slice A1 l[i].length c1) (by kernel_rfl) ?_ (post_is rfl)
    have hq := HQC.out w1' hB; refine Eq.trans (b := (execOp (Act.eval ⟨#[], []⟩) { dst := none, op := Op.load 25 (.const (Value.pointer (some ⟨b, o + i, none⟩))), type := 0, pos := "x", after := #[], guard := none }).run Try.prog w1') (by kernel_rfl) ?_; go_simp
  · intro vals w1' hB _ hd
    clear hd
    refine one_calls_g (f := 17) (args := #[.pointer (some ⟨T, 0, none⟩), .slice A1 l[i].length c1]) (w1 := w1') (by kernel_rfl) ?_ ?_
    · kernel_rfl
    refine (ref_rank (HT.out.past hB) A1 _ c1 l[i] rfl (HRW.out w1' hB)).mono ?_
    rintro e1 w2' ⟨rfl, h2⟩
    rw [HRK.out]
    exact ⟨_, rfl, post_draws rfl h2⟩
  · intro vals w1' hB _ hd
    clear hd
    refine one_value_g (v := Value.bool false) (by kernel_rfl) ?_ (post_is rfl)
    refine Eq.trans (b := (execOp (Act.eval ⟨#[], []⟩) { dst := none, op := Op.binOp BinOp.neq 3 (.const (Value.int .i64 (RK : Nat))) (.const (Value.int .i64 (RK : Nat))) 3, type := 0, pos := "x", after := #[], guard := none }).run Try.prog w1') (by kernel_rfl) ?_; go_simp
  · intro vals w1' hB _ hd
    clear hd
    refine one_value (v := Value.bool false) rfl ?_ (post_is rfl)
    kernel_rfl
  intro vals w1' hB _ hr
  simp only [fillT, Tell.is, Tell.draws, Act.put, List.setIfInBounds_toArray, List.set_cons_zero, List.set_cons_succ]
  exact hQ _ _ _ _ _ _ _ _ _ _ _ _ _ _ _ _ _ _ _ _ _ _ _ _ _ _ _ _ _ _ _ _ _ _ _ _ _ w1' hB
set_option maxRecDepth 100000 in
set_option maxHeartbeats 4000000 in
theorem rc22in {z0 z2 z3 z4 z5 z6 z10 z11 z12 z13 z14 z15 z16 z17 z21 z22 z23 z24 z25 z26 z27 z28 z29 z30 z31 z32 z33 z34 z35 z36 z37 z38 z39 z40 z41 z42 z43 z44 z45 z46 z47 z48 z49 z50 z51 z52 z53 z54 z55 z56 z57 z58 z59 z60 z61 z62 z63 z64 z65 z66 z67 z68 z69 z70 z71 z72 z73 z74 z75 z76 z77 z78 z79 z80 z81 z82 z83 z84 z85 z86 z87 z88 z89 z90 z91 z92 z93 z94 z95 z96 z97 z98 z99 z100 z101 z102 z103 z104 z105 z106 z107 z108 z109 z110 z111 z112 z113 z114 z115 z116 z117 z118 z119 z120 z121 z122 z123 z124 z125 z126 z127 z128 z129 z130 z131 z132 z133 z134 z135 z136 z137 z138 z139 z140 z141 z142 z143 z144 z145 z146 z147 z148 z149 z150 z151 z152 z153 z154 z155 z156 z157 z158 z159 z160 z161 z162 z163 z164 z165 z166 z167 z168 z169 z170 z171 z172 z173 z174 z175 z176 z177 z178 z179 z180 z181 z182 z183 z184 z185 z186 z187 z188 z189 z190 z191 : Value} (wr8 : World) (S T i b o c cL : Nat) (l L1 : List (List UInt8)) (q g8 c8 gL oL : Nat) (x : List UInt8) (hq : q < L1.length) (HM0 : Kept (decide ((0 : Int) ≤ (q : Int)) = true)) (HM1 : Kept (decide ((q : Int) < (L1.length : Int)) = true)) (HX8 : Kept (RdB wr8 (some ⟨g8, 0, none⟩) x))
    (HZ1 : Kept (∀ wk, Below wr8.heap.size wr8 wk → wk.cell? ⟨T, 1, none⟩ = some (.slice (some ⟨gL, oL, none⟩) L1.length cL))) (HZ4 : Kept (∀ wk, Below wr8.heap.size wr8 wk → wk.cell? ⟨gL, oL + q, none⟩ = some (.string ⟨x.toArray⟩))) (Q : Exit → Act → World → Prop)
    (hQ : ∀ (u154 u155 u156 u157 u158 u159 u160 u161 u162 u163 u164 u165 u166 u167 u168 u169 u170 u171 u172 u173 u174 u175 u176 u177 u178 u179 u180 u181 u182 u183 u184 u185 u186 u187 u188 u189 : Value) (w' : World), Below wr8.heap.size wr8 w' → Q .normal ⟨#[z0, .slice (some ⟨b, o, none⟩) l.length c, z2, z3, z4, z5, z6, .pointer (some ⟨S, 0, none⟩), .pointer (some ⟨T, 0, none⟩), .int .i64 (i : Int), z10, z11, z12, z13, z14, z15, z16, z17, .int .i64 (q : Int), .slice (some ⟨g8, 0, none⟩) x.length c8, .bool true, z21, z22, z23, z24, z25, z26, z27, z28, z29, z30, z31, z32, z33, z34, z35, z36, z37, z38, z39, z40, z41, z42, z43, z44, z45, z46, z47, z48, z49, z50, z51, z52, z53, z54, z55, z56, z57, z58, z59, z60, z61, z62, z63, z64, z65, z66, z67, z68, z69, z70, z71, z72, z73, z74, z75, z76, z77, z78, z79, z80, z81, z82, z83, z84, z85, z86, z87, z88, z89, z90, z91, z92, z93, z94, z95, z96, z97, z98, z99, z100, z101, z102, z103, z104, z105, z106, z107, z108, z109, z110, z111, z112, z113, z114, z115, z116, z117, z118, z119, z120, z121, z122, z123, z124, z125, z126, z127, z128, z129, z130, z131, z132, z133, z134, z135, z136, z137, z138, z139, z140, z141, z142, z143, z144, z145, z146, z147, z148, z149, z150, z151, z152, z153, u154, u155, u156, u157, u158, u159, u160, u161, u162, u163, u164, u165, u166, u167, u168, u169, u170, u171, u172, u173, u174, u175, u176, u177, u178, u179, u180, u181, u182, u183, u184, u185, u186, u187, u188, u189, .bool false, z191], []⟩ w') :
    Code.wp Try.prog (reg 22) Q ⟨#[z0, .slice (some ⟨b, o, none⟩) l.length c, z2, z3, z4, z5, z6, .pointer (some ⟨S, 0, none⟩), .pointer (some ⟨T, 0, none⟩), .int .i64 (i : Int), z10, z11, z12, z13, z14, z15, z16, z17, .int .i64 (q : Int), .slice (some ⟨g8, 0, none⟩) x.length c8, .bool true, z21, z22, z23, z24, z25, z26, z27, z28, z29, z30, z31, z32, z33, z34, z35, z36, z37, z38, z39, z40, z41, z42, z43, z44, z45, z46, z47, z48, z49, z50, z51, z52, z53, z54, z55, z56, z57, z58, z59, z60, z61, z62, z63, z64, z65, z66, z67, z68, z69, z70, z71, z72, z73, z74, z75, z76, z77, z78, z79, z80, z81, z82, z83, z84, z85, z86, z87, z88, z89, z90, z91, z92, z93, z94, z95, z96, z97, z98, z99, z100, z101, z102, z103, z104, z105, z106, z107, z108, z109, z110, z111, z112, z113, z114, z115, z116, z117, z118, z119, z120, z121, z122, z123, z124, z125, z126, z127, z128, z129, z130, z131, z132, z133, z134, z135, z136, z137, z138, z139, z140, z141, z142, z143, z144, z145, z146, z147, z148, z149, z150, z151, z152, z153, z154, z155, z156, z157, z158, z159, z160, z161, z162, z163, z164, z165, z166, z167, z168, z169, z170, z171, z172, z173, z174, z175, z176, z177, z178, z179, z180, z181, z182, z183, z184, z185, z186, z187, z188, z189, z190, z191], []⟩ wr8 := by
  conv => arg 2; whnf
  refine region_tell (wr8.heap.size) (G := fun _ => True) (ts := [
      .is (.bool true),
      .is (.int .i64 (q : Int)),
      .is (.bool true),
      .is (.bool true),
      .is (.int .i64 (q : Int)),
      .is (.pointer (some ⟨T, 0, none⟩)),
      .is (.pointer (some ⟨T, 0, none⟩)),
      .is (.pointer (some ⟨T, 1, none⟩)),
      .is (.slice (some ⟨gL, oL, none⟩) L1.length cL),
      .is (.int .i64 (L1.length : Int)),
      .is (.bool true),
      .is (.bool true),
      .is (.bool false),
      .is (.bool false),
      .is (.bool true),
      .is (.bool true),
      .is (.slice (some ⟨g8, 0, none⟩) x.length c8),
      .is (.string ⟨x.toArray⟩),
      .is (.pointer (some ⟨T, 0, none⟩)),
      .is (.pointer (some ⟨T, 0, none⟩)),
      .is (.pointer (some ⟨T, 1, none⟩)),
      .is (.slice (some ⟨gL, oL, none⟩) L1.length cL),
      .is (.int .i64 (q : Int)),
      .is (.pointer (some ⟨gL, oL + q, none⟩)),
      .is (.string ⟨x.toArray⟩),
      .is (.bool false),
      .is (.bool false),
      .is (.bool false),
      .is (.bool false),
      .is (.bool true),
      .is (.bool false),
      .is (.bool false),
      .is (undef),
      .is (undef),
      .is (undef),
      .is (.bool false),
      .is (.bool false)]) (fin := []) (cs := []) (by kernel_rfl) rfl (by kernel_rfl) (by kernel_rfl) ⟨trivial, trivial, trivial, trivial, trivial, trivial, trivial, trivial, trivial, trivial, trivial, trivial, trivial, trivial, trivial, trivial, trivial, trivial, trivial, trivial, trivial, trivial, trivial, trivial, trivial, trivial, trivial, trivial, trivial, trivial, trivial, trivial, trivial, trivial, trivial, trivial, trivial, trivial⟩ (fun _ _ _ _ => trivial) (by simp) (by simp) trivial
    ⟨?_, ?_, ?_, ?_, ?_, ?_, ?_, ?_, ?_, ?_, ?_, ?_, ?_, ?_, ?_, ?_, ?_, ?_, ?_, ?_, ?_, ?_, ?_, ?_, ?_, ?_, ?_, ?_, ?_, ?_, ?_, ?_, ?_, ?_, ?_, ?_, ?_, trivial⟩ ?_
  · intro vals w1' hB _ hd
    clear hd
    refine one_value (v := Value.bool true) rfl ?_ (post_is rfl)
    kernel_rfl
  · intro vals w1' hB _ hd
    clear hd
    refine one_value (v := Value.int .i64 (q : Int)) rfl ?_ (post_is rfl)
    kernel_rfl
  · intro vals w1' hB _ hd
    clear hd
    refine one_value (v := Value.bool true) rfl ?_ (post_is rfl)
    have hm := HM0.out; refine Eq.trans (b := (execOp (Act.eval ⟨#[], []⟩) { dst := none, op := Op.binOp BinOp.geq 3 (.const (Value.int .i64 (q : Int))) (.const (Value.int IntKind.i64 (0))) 3, type := 0, pos := "x", after := #[], guard := none }).run Try.prog w1') (by kernel_rfl) ?_; go_simp
  · intro vals w1' hB _ hd
    clear hd
    refine one_value (v := Value.bool true) rfl ?_ (post_is rfl)
    kernel_rfl
  · intro vals w1' hB _ hd
    clear hd
    refine one_value_g (v := Value.int .i64 (q : Int)) (by kernel_rfl) ?_ (post_is rfl)
    kernel_rfl
  · intro vals w1' hB _ hd
    clear hd
    refine one_value_g (v := Value.pointer (some ⟨T, 0, none⟩)) (by kernel_rfl) ?_ (post_is rfl)
    kernel_rfl
  · intro vals w1' hB _ hd
    clear hd
    refine one_value_g (v := Value.pointer (some ⟨T, 0, none⟩)) (by kernel_rfl) ?_ (post_is rfl)
    refine Eq.trans (b := (execOp (Act.eval ⟨#[], []⟩) { dst := none, op := Op.nilCheck (.const (Value.pointer (some ⟨T, 0, none⟩))), type := 0, pos := "x", after := #[], guard := none }).run Try.prog w1') (by kernel_rfl) ?_; go_simp
  · intro vals w1' hB _ hd
    clear hd
    refine one_value_g (v := Value.pointer (some ⟨T, 1, none⟩)) (by kernel_rfl) ?_ (post_is rfl)
    refine Eq.trans (b := (execOp (Act.eval ⟨#[], []⟩) { dst := none, op := Op.fieldAddr 45 (.const (Value.pointer (some ⟨T, 0, none⟩))) 1, type := 0, pos := "x", after := #[], guard := none }).run Try.prog w1') (by kernel_rfl) ?_; go_simp
  · intro vals w1' hB _ hd
    clear hd
    refine one_value_g (v := Value.slice (some ⟨gL, oL, none⟩) L1.length cL) (by kernel_rfl) ?_ (post_is rfl)
    have hz := HZ1.out w1' hB; refine Eq.trans (b := (execOp (Act.eval ⟨#[], []⟩) { dst := none, op := Op.load 43 (.const (Value.pointer (some ⟨T, 1, none⟩))), type := 0, pos := "x", after := #[], guard := none }).run Try.prog w1') (by kernel_rfl) ?_; go_simp
  · intro vals w1' hB _ hd
    clear hd
    refine one_value_g (v := Value.int .i64 (L1.length : Int)) (by kernel_rfl) ?_ (post_is rfl)
    kernel_rfl
  · intro vals w1' hB _ hd
    clear hd
    refine one_value_g (v := Value.bool true) (by kernel_rfl) ?_ (post_is rfl)
    have hm := HM1.out; refine Eq.trans (b := (execOp (Act.eval ⟨#[], []⟩) { dst := none, op := Op.binOp BinOp.lss 3 (.const (Value.int .i64 (q : Int))) (.const (Value.int .i64 (L1.length : Int))) 3, type := 0, pos := "x", after := #[], guard := none }).run Try.prog w1') (by kernel_rfl) ?_; go_simp
  · intro vals w1' hB _ hd
    clear hd
    refine one_value (v := Value.bool true) rfl ?_ (post_is rfl)
    kernel_rfl
  · intro vals w1' hB _ hd
    clear hd
    refine one_value (v := Value.bool false) rfl ?_ (post_is rfl)
    kernel_rfl
  · intro vals w1' hB _ hd
    clear hd
    refine one_value (v := Value.bool false) rfl ?_ (post_is rfl)
    kernel_rfl
  · intro vals w1' hB _ hd
    clear hd
    refine one_value_g (v := Value.bool true) (by kernel_rfl) ?_ (post_is rfl)
    kernel_rfl
  · intro vals w1' hB _ hd
    clear hd
    refine one_value_g (v := Value.bool true) (by kernel_rfl) ?_ (post_is rfl)
    kernel_rfl
  · intro vals w1' hB _ hd
    clear hd
    refine one_value_g (v := Value.slice (some ⟨g8, 0, none⟩) x.length c8) (by kernel_rfl) ?_ (post_is rfl)
    kernel_rfl
  · intro vals w1' hB _ hd
    clear hd
    refine one_value_g (v := Value.string ⟨x.toArray⟩) (by kernel_rfl) ?_ (post_is rfl)
    have hs := run_string (c := c8) (HX8.out.past hB) rfl; refine Eq.trans (b := (execOp (Act.eval ⟨#[], []⟩) { dst := none, op := Op.convert 25 9 (.const (Value.slice (some ⟨g8, 0, none⟩) x.length c8)), type := 0, pos := "x", after := #[], guard := none }).run Try.prog w1') (by kernel_rfl) ?_; go_simp
  · intro vals w1' hB _ hd
    clear hd
    refine one_value_g (v := Value.pointer (some ⟨T, 0, none⟩)) (by kernel_rfl) ?_ (post_is rfl)
    kernel_rfl
  · intro vals w1' hB _ hd
    clear hd
    refine one_value_g (v := Value.pointer (some ⟨T, 0, none⟩)) (by kernel_rfl) ?_ (post_is rfl)
    refine Eq.trans (b := (execOp (Act.eval ⟨#[], []⟩) { dst := none, op := Op.nilCheck (.const (Value.pointer (some ⟨T, 0, none⟩))), type := 0, pos := "x", after := #[], guard := none }).run Try.prog w1') (by kernel_rfl) ?_; go_simp
  · intro vals w1' hB _ hd
    clear hd
    refine one_value_g (v := Value.pointer (some ⟨T, 1, none⟩)) (by kernel_rfl) ?_ (post_is rfl)
    refine Eq.trans (b := (execOp (Act.eval ⟨#[], []⟩) { dst := none, op := Op.fieldAddr 45 (.const (Value.pointer (some ⟨T, 0, none⟩))) 1, type := 0, pos := "x", after := #[], guard := none }).run Try.prog w1') (by kernel_rfl) ?_; go_simp
  · intro vals w1' hB _ hd
    clear hd
    refine one_value_g (v := Value.slice (some ⟨gL, oL, none⟩) L1.length cL) (by kernel_rfl) ?_ (post_is rfl)
    have hz := HZ1.out w1' hB; refine Eq.trans (b := (execOp (Act.eval ⟨#[], []⟩) { dst := none, op := Op.load 43 (.const (Value.pointer (some ⟨T, 1, none⟩))), type := 0, pos := "x", after := #[], guard := none }).run Try.prog w1') (by kernel_rfl) ?_; go_simp
  · intro vals w1' hB _ hd
    clear hd
    refine one_value_g (v := Value.int .i64 (q : Int)) (by kernel_rfl) ?_ (post_is rfl)
    kernel_rfl
  · intro vals w1' hB _ hd
    clear hd
    refine one_value_g (v := Value.pointer (some ⟨gL, oL + q, none⟩)) (by kernel_rfl) ?_ (post_is rfl)
    refine Eq.trans (b := (execOp (Act.eval ⟨#[], []⟩) { dst := none, op := Op.indexAddr 43 (.const (Value.slice (some ⟨gL, oL, none⟩) L1.length cL)) (.const (Value.int .i64 (q : Int))), type := 0, pos := "x", after := #[], guard := none }).run Try.prog w1') (by kernel_rfl) ?_; go_simp; try (intro h; omega)
  · intro vals w1' hB _ hd
    clear hd
    refine one_value_g (v := Value.string ⟨x.toArray⟩) (by kernel_rfl) ?_ (post_is rfl)
    have hz := HZ4.out w1' hB; refine Eq.trans (b := (execOp (Act.eval ⟨#[], []⟩) { dst := none, op := Op.load 9 (.const (Value.pointer (some ⟨gL, oL + q, none⟩))), type := 0, pos := "x", after := #[], guard := none }).run Try.prog w1') (by kernel_rfl) ?_; go_simp
  · intro vals w1' hB _ hd
    clear hd
    refine one_value_g (v := Value.bool false) (by kernel_rfl) ?_ (post_is rfl)
    refine Eq.trans (b := (execOp (Act.eval ⟨#[], []⟩) { dst := none, op := Op.binOp BinOp.neq 9 (.const (Value.string ⟨x.toArray⟩)) (.const (Value.string ⟨x.toArray⟩)) 9, type := 0, pos := "x", after := #[], guard := none }).run Try.prog w1') (by kernel_rfl) ?_; go_simp
  · intro vals w1' hB _ hd
    clear hd
    refine one_value_g (v := Value.bool false) (by kernel_rfl) ?_ (post_is rfl)
    kernel_rfl
  · intro vals w1' hB _ hd
    clear hd
    refine one_value (v := Value.bool false) rfl ?_ (post_is rfl)
    kernel_rfl
  · intro vals w1' hB _ hd
    clear hd
    refine one_value (v := Value.bool false) rfl ?_ (post_is rfl)
    kernel_rfl
  · intro vals w1' hB _ hd
    clear hd
    refine one_value_g (v := Value.bool true) (by kernel_rfl) ?_ (post_is rfl)
    kernel_rfl
  · intro vals w1' hB _ hd
    clear hd
    refine one_value_g (v := Value.bool false) (by kernel_rfl) ?_ (post_is rfl)
    kernel_rfl
  · intro vals w1' hB _ hd
    clear hd
    refine one_value_g (v := Value.bool false) (by kernel_rfl) ?_ (post_is rfl)
    kernel_rfl
  · intro vals w1' hB _ hd
    clear hd
    exact one_not (by kernel_rfl) (post_is rfl)
  · intro vals w1' hB _ hd
    clear hd
    exact one_not (by kernel_rfl) (post_is rfl)
  · intro vals w1' hB _ hd
    clear hd
    exact one_not (by kernel_rfl) (post_is rfl)
  · intro vals w1' hB _ hd
    clear hd
    refine one_value_g (v := Value.bool false) (by kernel_rfl) ?_ (post_is rfl)
    kernel_rfl
  · intro vals w1' hB _ hd
    clear hd
    refine one_value (v := Value.bool false) rfl ?_ (post_is rfl)
    kernel_rfl
  intro vals w1' hB _ hr
  simp only [fillT, Tell.is, Act.put, List.setIfInBounds_toArray, List.set_cons_zero, List.set_cons_succ]
  exact hQ _ _ _ _ _ _ _ _ _ _ _ _ _ _ _ _ _ _ _ _ _ _ _ _ _ _ _ _ _ _ _ _ _ _ _ _ w1' hB
set_option maxRecDepth 100000 in
set_option maxHeartbeats 4000000 in
theorem rc22neg {z0 z2 z3 z4 z5 z6 z10 z11 z12 z13 z14 z15 z16 z17 z21 z22 z23 z24 z25 z26 z27 z28 z29 z30 z31 z32 z33 z34 z35 z36 z37 z38 z39 z40 z41 z42 z43 z44 z45 z46 z47 z48 z49 z50 z51 z52 z53 z54 z55 z56 z57 z58 z59 z60 z61 z62 z63 z64 z65 z66 z67 z68 z69 z70 z71 z72 z73 z74 z75 z76 z77 z78 z79 z80 z81 z82 z83 z84 z85 z86 z87 z88 z89 z90 z91 z92 z93 z94 z95 z96 z97 z98 z99 z100 z101 z102 z103 z104 z105 z106 z107 z108 z109 z110 z111 z112 z113 z114 z115 z116 z117 z118 z119 z120 z121 z122 z123 z124 z125 z126 z127 z128 z129 z130 z131 z132 z133 z134 z135 z136 z137 z138 z139 z140 z141 z142 z143 z144 z145 z146 z147 z148 z149 z150 z151 z152 z153 z154 z155 z156 z157 z158 z159 z160 z161 z162 z163 z164 z165 z166 z167 z168 z169 z170 z171 z172 z173 z174 z175 z176 z177 z178 z179 z180 z181 z182 z183 z184 z185 z186 z187 z188 z189 z190 z191 : Value} (wr8 : World) (S T i b o c : Nat) (l : List (List UInt8)) (kk : Int) (HM0 : Kept (decide ((0 : Int) ≤ kk) = false)) (Q : Exit → Act → World → Prop)
    (hQ : ∀ (u154 u155 u156 u157 u158 u159 u160 u161 u162 u163 u164 u165 u166 u167 u168 u169 u170 u171 u172 u173 u174 u175 u176 u177 u178 u179 u180 u181 u182 u183 u184 u185 u186 u187 u188 u189 : Value) (w' : World), Below wr8.heap.size wr8 w' → Q .normal ⟨#[z0, .slice (some ⟨b, o, none⟩) l.length c, z2, z3, z4, z5, z6, .pointer (some ⟨S, 0, none⟩), .pointer (some ⟨T, 0, none⟩), .int .i64 (i : Int), z10, z11, z12, z13, z14, z15, z16, z17, .int .i64 kk, .slice none 0 0, .bool false, z21, z22, z23, z24, z25, z26, z27, z28, z29, z30, z31, z32, z33, z34, z35, z36, z37, z38, z39, z40, z41, z42, z43, z44, z45, z46, z47, z48, z49, z50, z51, z52, z53, z54, z55, z56, z57, z58, z59, z60, z61, z62, z63, z64, z65, z66, z67, z68, z69, z70, z71, z72, z73, z74, z75, z76, z77, z78, z79, z80, z81, z82, z83, z84, z85, z86, z87, z88, z89, z90, z91, z92, z93, z94, z95, z96, z97, z98, z99, z100, z101, z102, z103, z104, z105, z106, z107, z108, z109, z110, z111, z112, z113, z114, z115, z116, z117, z118, z119, z120, z121, z122, z123, z124, z125, z126, z127, z128, z129, z130, z131, z132, z133, z134, z135, z136, z137, z138, z139, z140, z141, z142, z143, z144, z145, z146, z147, z148, z149, z150, z151, z152, z153, u154, u155, u156, u157, u158, u159, u160, u161, u162, u163, u164, u165, u166, u167, u168, u169, u170, u171, u172, u173, u174, u175, u176, u177, u178, u179, u180, u181, u182, u183, u184, u185, u186, u187, u188, u189, .bool false, z191], []⟩ w') :
    Code.wp Try.prog (reg 22) Q ⟨#[z0, .slice (some ⟨b, o, none⟩) l.length c, z2, z3, z4, z5, z6, .pointer (some ⟨S, 0, none⟩), .pointer (some ⟨T, 0, none⟩), .int .i64 (i : Int), z10, z11, z12, z13, z14, z15, z16, z17, .int .i64 kk, .slice none 0 0, .bool false, z21, z22, z23, z24, z25, z26, z27, z28, z29, z30, z31, z32, z33, z34, z35, z36, z37, z38, z39, z40, z41, z42, z43, z44, z45, z46, z47, z48, z49, z50, z51, z52, z53, z54, z55, z56, z57, z58, z59, z60, z61, z62, z63, z64, z65, z66, z67, z68, z69, z70, z71, z72, z73, z74, z75, z76, z77, z78, z79, z80, z81, z82, z83, z84, z85, z86, z87, z88, z89, z90, z91, z92, z93, z94, z95, z96, z97, z98, z99, z100, z101, z102, z103, z104, z105, z106, z107, z108, z109, z110, z111, z112, z113, z114, z115, z116, z117, z118, z119, z120, z121, z122, z123, z124, z125, z126, z127, z128, z129, z130, z131, z132, z133, z134, z135, z136, z137, z138, z139, z140, z141, z142, z143, z144, z145, z146, z147, z148, z149, z150, z151, z152, z153, z154, z155, z156, z157, z158, z159, z160, z161, z162, z163, z164, z165, z166, z167, z168, z169, z170, z171, z172, z173, z174, z175, z176, z177, z178, z179, z180, z181, z182, z183, z184, z185, z186, z187, z188, z189, z190, z191], []⟩ wr8 := by
  conv => arg 2; whnf
  refine region_tell (wr8.heap.size) (G := fun _ => True) (ts := [
      .is (.bool false),
      .is (.int .i64 kk),
      .is (.bool false),
      .is (.bool false),
      .is (undef),
      .is (undef),
      .is (undef),
      .is (undef),
      .is (undef),
      .is (undef),
      .is (undef),
      .is (.bool false),
      .is (.bool false),
      .is (.bool false),
      .is (.bool false),
      .is (.bool false),
      .is (undef),
      .is (undef),
      .is (undef),
      .is (undef),
      .is (undef),
      .is (undef),
      .is (undef),
      .is (undef),
      .is (undef),
      .is (undef),
      .is (.bool false),
      .is (.bool false),
      .is (.bool false),
      .is (.bool false),
      .is (.bool true),
      .is (.bool true),
      .is (.slice none 0 0),
      .is (.int .i64 (0 : Int)),
      .is (.bool false),
      .is (.bool false),
      .is (.bool false)]) (fin := []) (cs := []) (by kernel_rfl) rfl (by kernel_rfl) (by kernel_rfl) ⟨trivial, trivial, trivial, trivial, trivial, trivial, trivial, trivial, trivial, trivial, trivial, trivial, trivial, trivial, trivial, trivial, trivial, trivial, trivial, trivial, trivial, trivial, trivial, trivial, trivial, trivial, trivial, trivial, trivial, trivial, trivial, trivial, trivial, trivial, trivial, trivial, trivial, trivial⟩ (fun _ _ _ _ => trivial) (by simp) (by simp) trivial
    ⟨?_, ?_, ?_, ?_, ?_, ?_, ?_, ?_, ?_, ?_, ?_, ?_, ?_, ?_, ?_, ?_, ?_, ?_, ?_, ?_, ?_, ?_, ?_, ?_, ?_, ?_, ?_, ?_, ?_, ?_, ?_, ?_, ?_, ?_, ?_, ?_, ?_, trivial⟩ ?_
  · intro vals w1' hB _ hd
    clear hd
    refine one_value (v := Value.bool false) rfl ?_ (post_is rfl)
    kernel_rfl
  · intro vals w1' hB _ hd
    clear hd
    refine one_value (v := Value.int .i64 kk) rfl ?_ (post_is rfl)
    kernel_rfl
  · intro vals w1' hB _ hd
    clear hd
    refine one_value (v := Value.bool false) rfl ?_ (post_is rfl)
    have hm := HM0.out; refine Eq.trans (b := (execOp (Act.eval ⟨#[], []⟩) { dst := none, op := Op.binOp BinOp.geq 3 (.const (Value.int .i64 kk)) (.const (Value.int IntKind.i64 (0))) 3, type := 0, pos := "x", after := #[], guard := none }).run Try.prog w1') (by kernel_rfl) ?_; go_simp
  · intro vals w1' hB _ hd
    clear hd
    refine one_value (v := Value.bool false) rfl ?_ (post_is rfl)
    kernel_rfl
  · intro vals w1' hB _ hd
    clear hd
    exact one_not (by kernel_rfl) (post_is rfl)
  · intro vals w1' hB _ hd
    clear hd
    exact one_not (by kernel_rfl) (post_is rfl)
  · intro vals w1' hB _ hd
    clear hd
    exact one_not (by kernel_rfl) (post_is rfl)
  · intro vals w1' hB _ hd
    clear hd
    exact one_not (by kernel_rfl) (post_is rfl)
  · intro vals w1' hB _ hd
    clear hd
    exact one_not (by kernel_rfl) (post_is rfl)
  · intro vals w1' hB _ hd
    clear hd
    exact one_not (by kernel_rfl) (post_is rfl)
  · intro vals w1' hB _ hd
    clear hd
    exact one_not (by kernel_rfl) (post_is rfl)
  · intro vals w1' hB _ hd
    clear hd
    refine one_value (v := Value.bool false) rfl ?_ (post_is rfl)
    kernel_rfl
  · intro vals w1' hB _ hd
    clear hd
    refine one_value (v := Value.bool false) rfl ?_ (post_is rfl)
    kernel_rfl
  · intro vals w1' hB _ hd
    clear hd
    refine one_value (v := Value.bool false) rfl ?_ (post_is rfl)
    kernel_rfl
  · intro vals w1' hB _ hd
    clear hd
    refine one_value_g (v := Value.bool false) (by kernel_rfl) ?_ (post_is rfl)
    kernel_rfl
  · intro vals w1' hB _ hd
    clear hd
    refine one_value_g (v := Value.bool false) (by kernel_rfl) ?_ (post_is rfl)
    kernel_rfl
  · intro vals w1' hB _ hd
    clear hd
    exact one_not (by kernel_rfl) (post_is rfl)
  · intro vals w1' hB _ hd
    clear hd
    exact one_not (by kernel_rfl) (post_is rfl)
  · intro vals w1' hB _ hd
    clear hd
    exact one_not (by kernel_rfl) (post_is rfl)
  · intro vals w1' hB _ hd
    clear hd
    exact one_not (by kernel_rfl) (post_is rfl)
  · intro vals w1' hB _ hd
    clear hd
    exact one_not (by kernel_rfl) (post_is rfl)
  · intro vals w1' hB _ hd
    clear hd
    exact one_not (by kernel_rfl) (post_is rfl)
  · intro vals w1' hB _ hd
    clear hd
    exact one_not (by kernel_rfl) (post_is rfl)
  · intro vals w1' hB _ hd
    clear hd
    exact one_not (by kernel_rfl) (post_is rfl)
  · intro vals w1' hB _ hd
    clear hd
    exact one_not (by kernel_rfl) (post_is rfl)
  · intro vals w1' hB _ hd
    clear hd
    exact one_not (by kernel_rfl) (post_is rfl)
  · intro vals w1' hB _ hd
    clear hd
    refine one_value_g (v := Value.bool false) (by kernel_rfl) ?_ (post_is rfl)
    kernel_rfl
  · intro vals w1' hB _ hd
    clear hd
    refine one_value (v := Value.bool false) rfl ?_ (post_is rfl)
    kernel_rfl
  · intro vals w1' hB _ hd
    clear hd
    refine one_value (v := Value.bool false) rfl ?_ (post_is rfl)
    kernel_rfl
  · intro vals w1' hB _ hd
    clear hd
    refine one_value_g (v := Value.bool false) (by kernel_rfl) ?_ (post_is rfl)
    kernel_rfl
  · intro vals w1' hB _ hd
    clear hd
    refine one_value_g (v := Value.bool true) (by kernel_rfl) ?_ (post_is rfl)
    kernel_rfl
  · intro vals w1' hB _ hd
    clear hd
    refine one_value_g (v := Value.bool true) (by kernel_rfl) ?_ (post_is rfl)
    kernel_rfl
  · intro vals w1' hB _ hd
    clear hd
    refine one_value_g (v := Value.slice none 0 0) (by kernel_rfl) ?_ (post_is rfl)
    kernel_rfl
  · intro vals w1' hB _ hd
    clear hd
    refine one_value_g (v := Value.int .i64 (0 : Int)) (by kernel_rfl) ?_ (post_is rfl)
    kernel_rfl
  · intro vals w1' hB _ hd
    clear hd
    refine one_value_g (v := Value.bool false) (by kernel_rfl) ?_ (post_is rfl)
    refine Eq.trans (b := (execOp (Act.eval ⟨#[], []⟩) { dst := none, op := Op.binOp BinOp.gtr 3 (.const (Value.int .i64 (0 : Int))) (.const (Value.int IntKind.i64 (0))) 3, type := 0, pos := "x", after := #[], guard := none }).run Try.prog w1') (by kernel_rfl) ?_; go_simp
  · intro vals w1' hB _ hd
    clear hd
    refine one_value_g (v := Value.bool false) (by kernel_rfl) ?_ (post_is rfl)
    kernel_rfl
  · intro vals w1' hB _ hd
    clear hd
    refine one_value (v := Value.bool false) rfl ?_ (post_is rfl)
    kernel_rfl
  intro vals w1' hB _ hr
  simp only [fillT, Tell.is, Act.put, List.setIfInBounds_toArray, List.set_cons_zero, List.set_cons_succ]
  exact hQ _ _ _ _ _ _ _ _ _ _ _ _ _ _ _ _ _ _ _ _ _ _ _ _ _ _ _ _ _ _ _ _ _ _ _ _ w1' hB
set_option maxRecDepth 100000 in
set_option maxHeartbeats 4000000 in
theorem rc22far {z0 z2 z3 z4 z5 z6 z10 z11 z12 z13 z14 z15 z16 z17 z21 z22 z23 z24 z25 z26 z27 z28 z29 z30 z31 z32 z33 z34 z35 z36 z37 z38 z39 z40 z41 z42 z43 z44 z45 z46 z47 z48 z49 z50 z51 z52 z53 z54 z55 z56 z57 z58 z59 z60 z61 z62 z63 z64 z65 z66 z67 z68 z69 z70 z71 z72 z73 z74 z75 z76 z77 z78 z79 z80 z81 z82 z83 z84 z85 z86 z87 z88 z89 z90 z91 z92 z93 z94 z95 z96 z97 z98 z99 z100 z101 z102 z103 z104 z105 z106 z107 z108 z109 z110 z111 z112 z113 z114 z115 z116 z117 z118 z119 z120 z121 z122 z123 z124 z125 z126 z127 z128 z129 z130 z131 z132 z133 z134 z135 z136 z137 z138 z139 z140 z141 z142 z143 z144 z145 z146 z147 z148 z149 z150 z151 z152 z153 z154 z155 z156 z157 z158 z159 z160 z161 z162 z163 z164 z165 z166 z167 z168 z169 z170 z171 z172 z173 z174 z175 z176 z177 z178 z179 z180 z181 z182 z183 z184 z185 z186 z187 z188 z189 z190 z191 : Value} (wr8 : World) (S T i b o c cL : Nat) (l L1 : List (List UInt8)) (AL : Option Addr) (kk : Int) (HM0 : Kept (decide ((0 : Int) ≤ kk) = true)) (HM1 : Kept (decide (kk < (L1.length : Int)) = false)) (HZ1 : Kept (∀ wk, Below wr8.heap.size wr8 wk → wk.cell? ⟨T, 1, none⟩ = some (.slice AL L1.length cL))) (Q : Exit → Act → World → Prop)
    (hQ : ∀ (u154 u155 u156 u157 u158 u159 u160 u161 u162 u163 u164 u165 u166 u167 u168 u169 u170 u171 u172 u173 u174 u175 u176 u177 u178 u179 u180 u181 u182 u183 u184 u185 u186 u187 u188 u189 : Value) (w' : World), Below wr8.heap.size wr8 w' → Q .normal ⟨#[z0, .slice (some ⟨b, o, none⟩) l.length c, z2, z3, z4, z5, z6, .pointer (some ⟨S, 0, none⟩), .pointer (some ⟨T, 0, none⟩), .int .i64 (i : Int), z10, z11, z12, z13, z14, z15, z16, z17, .int .i64 kk, .slice none 0 0, .bool false, z21, z22, z23, z24, z25, z26, z27, z28, z29, z30, z31, z32, z33, z34, z35, z36, z37, z38, z39, z40, z41, z42, z43, z44, z45, z46, z47, z48, z49, z50, z51, z52, z53, z54, z55, z56, z57, z58, z59, z60, z61, z62, z63, z64, z65, z66, z67, z68, z69, z70, z71, z72, z73, z74, z75, z76, z77, z78, z79, z80, z81, z82, z83, z84, z85, z86, z87, z88, z89, z90, z91, z92, z93, z94, z95, z96, z97, z98, z99, z100, z101, z102, z103, z104, z105, z106, z107, z108, z109, z110, z111, z112, z113, z114, z115, z116, z117, z118, z119, z120, z121, z122, z123, z124, z125, z126, z127, z128, z129, z130, z131, z132, z133, z134, z135, z136, z137, z138, z139, z140, z141, z142, z143, z144, z145, z146, z147, z148, z149, z150, z151, z152, z153, u154, u155, u156, u157, u158, u159, u160, u161, u162, u163, u164, u165, u166, u167, u168, u169, u170, u171, u172, u173, u174, u175, u176, u177, u178, u179, u180, u181, u182, u183, u184, u185, u186, u187, u188, u189, .bool false, z191], []⟩ w') :
    Code.wp Try.prog (reg 22) Q ⟨#[z0, .slice (some ⟨b, o, none⟩) l.length c, z2, z3, z4, z5, z6, .pointer (some ⟨S, 0, none⟩), .pointer (some ⟨T, 0, none⟩), .int .i64 (i : Int), z10, z11, z12, z13, z14, z15, z16, z17, .int .i64 kk, .slice none 0 0, .bool false, z21, z22, z23, z24, z25, z26, z27, z28, z29, z30, z31, z32, z33, z34, z35, z36, z37, z38, z39, z40, z41, z42, z43, z44, z45, z46, z47, z48, z49, z50, z51, z52, z53, z54, z55, z56, z57, z58, z59, z60, z61, z62, z63, z64, z65, z66, z67, z68, z69, z70, z71, z72, z73, z74, z75, z76, z77, z78, z79, z80, z81, z82, z83, z84, z85, z86, z87, z88, z89, z90, z91, z92, z93, z94, z95, z96, z97, z98, z99, z100, z101, z102, z103, z104, z105, z106, z107, z108, z109, z110, z111, z112, z113, z114, z115, z116, z117, z118, z119, z120, z121, z122, z123, z124, z125, z126, z127, z128, z129, z130, z131, z132, z133, z134, z135, z136, z137, z138, z139, z140, z141, z142, z143, z144, z145, z146, z147, z148, z149, z150, z151, z152, z153, z154, z155, z156, z157, z158, z159, z160, z161, z162, z163, z164, z165, z166, z167, z168, z169, z170, z171, z172, z173, z174, z175, z176, z177, z178, z179, z180, z181, z182, z183, z184, z185, z186, z187, z188, z189, z190, z191], []⟩ wr8 := by
  conv => arg 2; whnf
  refine region_tell (wr8.heap.size) (G := fun _ => True) (ts := [
      .is (.bool false),
      .is (.int .i64 kk),
      .is (.bool true),
      .is (.bool true),
      .is (.int .i64 kk),
      .is (.pointer (some ⟨T, 0, none⟩)),
      .is (.pointer (some ⟨T, 0, none⟩)),
      .is (.pointer (some ⟨T, 1, none⟩)),
      .is (.slice AL L1.length cL),
      .is (.int .i64 (L1.length : Int)),
      .is (.bool false),
      .is (.bool false),
      .is (.bool false),
      .is (.bool false),
      .is (.bool false),
      .is (.bool false),
      .is (undef),
      .is (undef),
      .is (undef),
      .is (undef),
      .is (undef),
      .is (undef),
      .is (undef),
      .is (undef),
      .is (undef),
      .is (undef),
      .is (.bool false),
      .is (.bool false),
      .is (.bool false),
      .is (.bool false),
      .is (.bool true),
      .is (.bool true),
      .is (.slice none 0 0),
      .is (.int .i64 (0 : Int)),
      .is (.bool false),
      .is (.bool false),
      .is (.bool false)]) (fin := []) (cs := []) (by kernel_rfl) rfl (by kernel_rfl) (by kernel_rfl) ⟨trivial, trivial, trivial, trivial, trivial, trivial, trivial, trivial, trivial, trivial, trivial, trivial, trivial, trivial, trivial, trivial, trivial, trivial, trivial, trivial, trivial, trivial, trivial, trivial, trivial, trivial, trivial, trivial, trivial, trivial, trivial, trivial, trivial, trivial, trivial, trivial, trivial, trivial⟩ (fun _ _ _ _ => trivial) (by simp) (by simp) trivial
    ⟨?_, ?_, ?_, ?_, ?_, ?_, ?_, ?_, ?_, ?_, ?_, ?_, ?_, ?_, ?_, ?_, ?_, ?_, ?_, ?_, ?_, ?_, ?_, ?_, ?_, ?_, ?_, ?_, ?_, ?_, ?_, ?_, ?_, ?_, ?_, ?_, ?_, trivial⟩ ?_
  · intro vals w1' hB _ hd
    clear hd
    refine one_value (v := Value.bool false) rfl ?_ (post_is rfl)
    kernel_rfl
  · intro vals w1' hB _ hd
    clear hd
    refine one_value (v := Value.int .i64 kk) rfl ?_ (post_is rfl)
    kernel_rfl
  · intro vals w1' hB _ hd
    clear hd
    refine one_value (v := Value.bool true) rfl ?_ (post_is rfl)
    have hm := HM0.out; refine Eq.trans (b := (execOp (Act.eval ⟨#[], []⟩) { dst := none, op := Op.binOp BinOp.geq 3 (.const (Value.int .i64 kk)) (.const (Value.int IntKind.i64 (0))) 3, type := 0, pos := "x", after := #[], guard := none }).run Try.prog w1') (by kernel_rfl) ?_; go_simp
  · intro vals w1' hB _ hd
    clear hd
    refine one_value (v := Value.bool true) rfl ?_ (post_is rfl)
    kernel_rfl
  · intro vals w1' hB _ hd
    clear hd
    refine one_value_g (v := Value.int .i64 kk) (by kernel_rfl) ?_ (post_is rfl)
    kernel_rfl
  · intro vals w1' hB _ hd
    clear hd
    refine one_value_g (v := Value.pointer (some ⟨T, 0, none⟩)) (by kernel_rfl) ?_ (post_is rfl)
    kernel_rfl
  · intro vals w1' hB _ hd
    clear hd
    refine one_value_g (v := Value.pointer (some ⟨T, 0, none⟩)) (by kernel_rfl) ?_ (post_is rfl)
    refine Eq.trans (b := (execOp (Act.eval ⟨#[], []⟩) { dst := none, op := Op.nilCheck (.const (Value.pointer (some ⟨T, 0, none⟩))), type := 0, pos := "x", after := #[], guard := none }).run Try.prog w1') (by kernel_rfl) ?_; go_simp
  · intro vals w1' hB _ hd
    clear hd
    refine one_value_g (v := Value.pointer (some ⟨T, 1, none⟩)) (by kernel_rfl) ?_ (post_is rfl)
    refine Eq.trans (b := (execOp (Act.eval ⟨#[], []⟩) { dst := none, op := Op.fieldAddr 45 (.const (Value.pointer (some ⟨T, 0, none⟩))) 1, type := 0, pos := "x", after := #[], guard := none }).run Try.prog w1') (by kernel_rfl) ?_; go_simp
  · intro vals w1' hB _ hd
    clear hd
    refine one_value_g (v := Value.slice AL L1.length cL) (by kernel_rfl) ?_ (post_is rfl)
    have hz := HZ1.out w1' hB; refine Eq.trans (b := (execOp (Act.eval ⟨#[], []⟩) { dst := none, op := Op.load 43 (.const (Value.pointer (some ⟨T, 1, none⟩))), type := 0, pos := "x", after := #[], guard := none }).run Try.prog w1') (by kernel_rfl) ?_; go_simp
  · intro vals w1' hB _ hd
    clear hd
    refine one_value_g (v := Value.int .i64 (L1.length : Int)) (by kernel_rfl) ?_ (post_is rfl)
    kernel_rfl
  · intro vals w1' hB _ hd
    clear hd
    refine one_value_g (v := Value.bool false) (by kernel_rfl) ?_ (post_is rfl)
    have hm := HM1.out; refine Eq.trans (b := (execOp (Act.eval ⟨#[], []⟩) { dst := none, op := Op.binOp BinOp.lss 3 (.const (Value.int .i64 kk)) (.const (Value.int .i64 (L1.length : Int))) 3, type := 0, pos := "x", after := #[], guard := none }).run Try.prog w1') (by kernel_rfl) ?_; go_simp
  · intro vals w1' hB _ hd
    clear hd
    refine one_value (v := Value.bool false) rfl ?_ (post_is rfl)
    kernel_rfl
  · intro vals w1' hB _ hd
    clear hd
    refine one_value (v := Value.bool false) rfl ?_ (post_is rfl)
    kernel_rfl
  · intro vals w1' hB _ hd
    clear hd
    refine one_value (v := Value.bool false) rfl ?_ (post_is rfl)
    kernel_rfl
  · intro vals w1' hB _ hd
    clear hd
    refine one_value_g (v := Value.bool false) (by kernel_rfl) ?_ (post_is rfl)
    kernel_rfl
  · intro vals w1' hB _ hd
    clear hd
    refine one_value_g (v := Value.bool false) (by kernel_rfl) ?_ (post_is rfl)
    kernel_rfl
  · intro vals w1' hB _ hd
    clear hd
    exact one_not (by kernel_rfl) (post_is rfl)
  · intro vals w1' hB _ hd
    clear hd
    exact one_not (by kernel_rfl) (post_is rfl)
  · intro vals w1' hB _ hd
    clear hd
    exact one_not (by kernel_rfl) (post_is rfl)
  · intro vals w1' hB _ hd
    clear hd
    exact one_not (by kernel_rfl) (post_is rfl)
  · intro vals w1' hB _ hd
    clear hd
    exact one_not (by kernel_rfl) (post_is rfl)
  · intro vals w1' hB _ hd
    clear hd
    exact one_not (by kernel_rfl) (post_is rfl)
  · intro vals w1' hB _ hd
    clear hd
    exact one_not (by kernel_rfl) (post_is rfl)
  · intro vals w1' hB _ hd
    clear hd
    exact one_not (by kernel_rfl) (post_is rfl)
  · intro vals w1' hB _ hd
    clear hd
    exact one_not (by kernel_rfl) (post_is rfl)
  · intro vals w1' hB _ hd
    clear hd
    exact one_not (by kernel_rfl) (post_is rfl)
  · intro vals w1' hB _ hd
    clear hd
    refine one_value_g (v := Value.bool false) (by kernel_rfl) ?_ (post_is rfl)
    kernel_rfl
  · intro vals w1' hB _ hd
    clear hd
    refine one_value (v := Value.bool false) rfl ?_ (post_is rfl)
    kernel_rfl
  · intro vals w1' hB _ hd
    clear hd
    refine one_value (v := Value.bool false) rfl ?_ (post_is rfl)
    kernel_rfl
  · intro vals w1' hB _ hd
    clear hd
    refine one_value_g (v := Value.bool false) (by kernel_rfl) ?_ (post_is rfl)
    kernel_rfl
  · intro vals w1' hB _ hd
    clear hd
    refine one_value_g (v := Value.bool true) (by kernel_rfl) ?_ (post_is rfl)
    kernel_rfl
  · intro vals w1' hB _ hd
    clear hd
    refine one_value_g (v := Value.bool true) (by kernel_rfl) ?_ (post_is rfl)
    kernel_rfl
  · intro vals w1' hB _ hd
    clear hd
    refine one_value_g (v := Value.slice none 0 0) (by kernel_rfl) ?_ (post_is rfl)
    kernel_rfl
  · intro vals w1' hB _ hd
    clear hd
    refine one_value_g (v := Value.int .i64 (0 : Int)) (by kernel_rfl) ?_ (post_is rfl)
    kernel_rfl
  · intro vals w1' hB _ hd
    clear hd
    refine one_value_g (v := Value.bool false) (by kernel_rfl) ?_ (post_is rfl)
    refine Eq.trans (b := (execOp (Act.eval ⟨#[], []⟩) { dst := none, op := Op.binOp BinOp.gtr 3 (.const (Value.int .i64 (0 : Int))) (.const (Value.int IntKind.i64 (0))) 3, type := 0, pos := "x", after := #[], guard := none }).run Try.prog w1') (by kernel_rfl) ?_; go_simp
  · intro vals w1' hB _ hd
    clear hd
    refine one_value_g (v := Value.bool false) (by kernel_rfl) ?_ (post_is rfl)
    kernel_rfl
  · intro vals w1' hB _ hd
    clear hd
    refine one_value (v := Value.bool false) rfl ?_ (post_is rfl)
    kernel_rfl
  intro vals w1' hB _ hr
  simp only [fillT, Tell.is, Act.put, List.setIfInBounds_toArray, List.set_cons_zero, List.set_cons_succ]
  exact hQ _ _ _ _ _ _ _ _ _ _ _ _ _ _ _ _ _ _ _ _ _ _ _ _ _ _ _ _ _ _ _ _ _ _ _ _ w1' hB
end Go.Proofs.Ytonlefopjpdecaa
