/- FetcKinds: the great region. -/
import Derived.Test.YtchldbkjapnlcaaJe
import Derived.Test.YtchldbkjapnlcaaJs
import Derived.Test.YtchldbkjapnlcaaJc
import Derived.BigQuiet
set_option linter.unusedVariables false
set_option linter.unusedSimpArgs false
section
namespace Go.Proofs.Ytchldbkjapnlcaa
open Go.RowKit

noncomputable def regKi (id : Nat) : Code := (Try.f9.body.bind (findRegion id)).getD .skip
theorem run_eq_ent (a b : Ent) (w : World) : (binOp .eql 55 a.v b.v).run Try.prog w = .ok (.bool (decide (a = b))) w := by
 have : (decide (a = b)) = (a.pc == b.pc && (a.val == b.val && (a.addr == b.addr && (a.frm == b.frm && (a.next == b.next && (a.done == b.done && (a.known == b.known && a.fault == b.fault))))))) := by
  rw [Bool.eq_iff_iff]
  obtain ⟨a0, a1, a2, a3, a4, a5, a6, a7⟩ := a
  obtain ⟨b0, b1, b2, b3, b4, b5, b6, b7⟩ := b
  simp [Ent.mk.injEq]
 rw [this]
 unfold Ent.v
 simp [go_sem]
 repeat' split
 all_goals simp_all
set_option maxRecDepth 100000 in
set_option maxHeartbeats 2000000 in
theorem ki_reg20 {z0 z1 z2 z3 z4 z5 z8 z15 z17 z19 z20 z21 z22 z23 z24 z25 z26 z27 z28 z29 z30 z31 z32 z33 z34 z35 z36 z37 z38 z39 z40 z41 z42 z43 z44 z45 z46 z47 z48 z49 z50 z51 z52 z53 z54 z55 z56 z57 z58 z59 z60 z61 z62 z63 z64 z65 z66 z67 z68 z69 z70 z71 z72 z73 z74 z75 z76 z77 z78 z79 z80 z81 z82 z83 z84 z85 z86 z87 z88 z89 z90 z91 z92 z93 z94 z95 z96 z97 z98 z99 z100 z101 z102 z103 z104 z105 z106 z107 z108 z109 z110 z111 z112 z113 z114 z115 z116 z117 z118 z119 z120 z121 z122 z123 z124 z125 z126 z127 z128 z129 z130 z131 z132 z133 z134 z135 z136 z137 z138 z139 z140 z141 z142 z143 z144 z145 z146 z147 z148 z149 z150 z151 z152 z153 z154 z155 z156 z157 z158 : Value} (w0 : World) (S1 S2 S3 S5 S7 pb po : Nat) (n nx rs : Int) (dn : Bool) (kd op tg rn mm rx rs0 ot y0 y1 y2 y3 yf : Int) (qA ymA ysA yqA : Option Addr) (qN qC ymN ymC ysN ysC ybC yqN yqC : Nat)
  (XR : Kept (∀ w1, Below w0.heap.size w0 w1 → CellsAt w1 S1 0 [.int .i64 (kd), .int .i64 (op), .int .i64 (0), .bool false, .int .i64 (0), .bool false, .int .i64 (0), .string ⟨#[]⟩, .int .i64 (tg), .int .i64 (rn), .int .i64 (mm), .int .i64 (rx), .bool dn, .int .i64 (rs0), .int .i64 (ot)]))
  (XP : Kept (∀ w1, Below w0.heap.size w0 w1 → CellsAt w1 S3 0 [.int .i64 (3), .int .i64 (2), .int .i64 (0), .int .i64 (0), .int .i64 (0), .int .i64 (0), .int .i64 (0), .slice none 0 0, .slice none 0 0, .slice ((some ⟨S2, 0, none⟩)) 5 5]))
  (XC : Kept (∀ w1, Below w0.heap.size w0 w1 → CellsAt w1 S5 0 [.int .i64 (0), .int .i64 (0), .int .i64 (0), .int .i64 (0), .slice none 0 0, .slice none 0 0, .int .i64 (1), .slice none 0 0, .slice qA qN qC, .int .i64 (0)]))
  (XY : Kept (∀ w1, Below w0.heap.size w0 w1 → CellsAt w1 S7 0 [.int .i64 (y0), .int .i64 (y1), .int .i64 (y2), .int .i64 (y3), .slice ymA ymN ymC, .slice ysA ysN ysC, .int .i64 (nx), .slice ((some ⟨pb, po, none⟩)) 1 ybC, .slice yqA yqN yqC, .int .i64 (yf)]))
  (XE : Kept (∀ w1, Below w0.heap.size w0 w1 → CellsAt w1 pb po [.int .i64 (1), .int .i64 (0), .int .i64 (0), .int .i64 (-1), .int .i64 (nx), .bool dn, .bool false, .bool false]))
  (HGK : Kept (∀ w1, Below w0.heap.size w0 w1 → Calls Try.prog 42 #[.agg #[.int .i64 (3), .int .i64 (2), .int .i64 (0), .int .i64 (0), .int .i64 (0), .int .i64 (0), .int .i64 (0), .slice none 0 0, .slice none 0 0, .slice ((some ⟨S2, 0, none⟩)) 5 5], .agg #[.int .i64 (0), .int .i64 (0), .int .i64 (0), .int .i64 (0), .slice none 0 0, .slice none 0 0, .int .i64 (1), .slice none 0 0, .slice qA qN qC, .int .i64 (0)]] w1 fun en w' => en = .returned (.int .i64 n) ∧ Below w1.heap.size w1 w')) (hrs : ((yqN : Int) == rs) = true) (Q : Exit → Act → World → Prop)
  (hQ : ∀ (u109 u110 u111 u112 u113 u114 u115 u116 u117 u118 u119 u120 u121 u122 u123 u124 u125 u126 u127 u128 u129 u130 u131 u132 u133 u134 u135 u136 u137 u138 u139 u140 u141 u142 u143 u144 u145 u146 u147 u148 u149 u150 u151 u152 u153 u154 u155 u156 u157 u158 : Value) (w' : World), Below w0.heap.size w0 w' → Q .normal ⟨#[z0, z1, z2, z3, .bool true, z5, .pointer (some ⟨S1, 0, none⟩), .pointer (some ⟨S3, 0, none⟩), z8, .pointer (some ⟨S5, 0, none⟩), .int .i64 n, .int .i64 nx, .int .i64 rs, .pointer (some ⟨S7, 0, none⟩), .bool true, z15, .bool false, z17, .bool false, z19, z20, z21, z22, z23, z24, z25, z26, z27, z28, z29, z30, z31, z32, z33, z34, z35, z36, z37, z38, z39, z40, z41, z42, z43, z44, z45, z46, z47, z48, z49, z50, z51, z52, z53, z54, z55, z56, z57, z58, z59, z60, z61, z62, z63, z64, z65, z66, z67, z68, z69, z70, z71, z72, z73, z74, z75, z76, z77, z78, z79, z80, z81, z82, z83, z84, z85, z86, z87, z88, z89, z90, z91, z92, z93, z94, z95, z96, z97, z98, z99, z100, z101, z102, z103, z104, z105, z106, z107, z108, u109, u110, u111, u112, u113, u114, u115, u116, u117, u118, u119, u120, u121, u122, u123, u124, u125, u126, u127, u128, u129, u130, u131, u132, u133, u134, u135, u136, u137, u138, u139, u140, u141, u142, u143, u144, u145, u146, u147, u148, u149, u150, u151, u152, u153, u154, u155, u156, u157, u158], []⟩ w') :
  Code.wp Try.prog (regKi 20) Q ⟨#[z0, z1, z2, z3, z4, z5, .pointer (some ⟨S1, 0, none⟩), .pointer (some ⟨S3, 0, none⟩), z8, .pointer (some ⟨S5, 0, none⟩), .int .i64 n, .int .i64 nx, .int .i64 rs, .pointer (some ⟨S7, 0, none⟩), .bool true, z15, .bool false, z17, .bool false, z19, z20, z21, z22, z23, z24, z25, z26, z27, z28, z29, z30, z31, z32, z33, z34, z35, z36, z37, z38, z39, z40, z41, z42, z43, z44, z45, z46, z47, z48, z49, z50, z51, z52, z53, z54, z55, z56, z57, z58, z59, z60, z61, z62, z63, z64, z65, z66, z67, z68, z69, z70, z71, z72, z73, z74, z75, z76, z77, z78, z79, z80, z81, z82, z83, z84, z85, z86, z87, z88, z89, z90, z91, z92, z93, z94, z95, z96, z97, z98, z99, z100, z101, z102, z103, z104, z105, z106, z107, z108, z109, z110, z111, z112, z113, z114, z115, z116, z117, z118, z119, z120, z121, z122, z123, z124, z125, z126, z127, z128, z129, z130, z131, z132, z133, z134, z135, z136, z137, z138, z139, z140, z141, z142, z143, z144, z145, z146, z147, z148, z149, z150, z151, z152, z153, z154, z155, z156, z157, z158], []⟩ w0 := by
 conv => arg 2; whnf
 have heq0 := fun w => run_eq_ent ⟨1, 0, 0, -1, nx, dn, false, false⟩ ⟨1, 0, 0, -1, nx, dn, false, false⟩ w
 simp only [decide_true] at heq0
 have hgn : (n == n) = true := by simp
 have hgx : (nx == nx) = true := by simp
 refine region_tell (w0.heap.size) (G := fun _ => True) (ts := [
   .is (Value.agg #[.int .i64 (3), .int .i64 (2), .int .i64 (0), .int .i64 (0), .int .i64 (0), .int .i64 (0), .int .i64 (0), .slice none 0 0, .slice none 0 0, .slice ((some ⟨S2, 0, none⟩)) 5 5]),
   .is (Value.agg #[.int .i64 (0), .int .i64 (0), .int .i64 (0), .int .i64 (0), .slice none 0 0, .slice none 0 0, .int .i64 (1), .slice none 0 0, .slice qA qN qC, .int .i64 (0)]),
   .draws (.int .i64 n),
   .is (Value.int .i64 (n)),
   .is (Value.bool true),
   .is (Value.bool true),
   .is (Value.bool true),
   .is (Value.bool true),
   .is (Value.bool true),
   .is (Value.bool false),
   .is (Value.bool true),
   .is (Value.bool true),
   .is (Value.bool true),
   .is (Value.bool false),
   .is (Value.bool true),
   .is (Value.bool true),
   .is (Value.bool true),
   .is (Value.pointer (some ⟨S7, 7, none⟩)),
   .is (Value.slice ((some ⟨pb, po, none⟩)) 1 ybC),
   .is (Value.int .i64 ((1 : Int))),
   .is (Value.bool true),
   .is (Value.bool true),
   .is (Value.bool true),
   .is (Value.pointer (some ⟨S7, 7, none⟩)),
   .is (Value.slice ((some ⟨pb, po, none⟩)) 1 ybC),
   .is (Value.pointer (some ⟨pb, po, none⟩)),
   .is (Value.agg #[.int .i64 (1), .int .i64 (0), .int .i64 (0), .int .i64 (-1), .int .i64 (nx), .bool dn, .bool false, .bool false]),
   .is (Value.int .i64 (nx)),
   .is (Value.pointer (some ⟨S1, 12, none⟩)),
   .is (Value.bool dn),
   .is (Value.agg #[.int .i64 (1), .int .i64 (0), .int .i64 (0), .int .i64 (-1), .int .i64 (nx), .bool dn, .bool false, .bool false]),
   .is (Value.bool true),
   .is (Value.bool true),
   .is (Value.bool true),
   .is (Value.pointer (some ⟨S7, 0, none⟩)),
   .is (Value.pointer (some ⟨S7, 6, none⟩)),
   .is (Value.int .i64 (nx)),
   .is (Value.int .i64 (nx)),
   .is (Value.bool true),
   .is (Value.bool true),
   .is (Value.bool true),
   .is (Value.pointer (some ⟨S7, 8, none⟩)),
   .is (Value.slice yqA yqN yqC),
   .is (Value.int .i64 ((yqN : Int))),
   .is (Value.int .i64 (rs)),
   .is (Value.bool true),
   .is (Value.bool true),
   .is (Value.bool true),
   .draws (.bool true),
   .is (Value.bool true),
   .is (Value.bool true)])
  (fin := []) (cs := []) (by kernel_rfl) rfl (by kernel_rfl) (by kernel_rfl)
  ⟨trivial, trivial, trivial, trivial, trivial, trivial, trivial, trivial, trivial, trivial, trivial, trivial, trivial, trivial, trivial, trivial, trivial, trivial, trivial, trivial, trivial, trivial, trivial, trivial, trivial, trivial, trivial, trivial, trivial, trivial, trivial, trivial, trivial, trivial, trivial, trivial, trivial, trivial, trivial, trivial, trivial, trivial, trivial, trivial, trivial, trivial, trivial, trivial, trivial, trivial, trivial, trivial⟩ (fun _ _ _ _ => trivial) (by simp) (by simp) trivial
  ⟨?_, ?_, ?_, ?_, ?_, ?_, ?_, ?_, ?_, ?_, ?_, ?_, ?_, ?_, ?_, ?_, ?_, ?_, ?_, ?_, ?_, ?_, ?_, ?_, ?_, ?_, ?_, ?_, ?_, ?_, ?_, ?_, ?_, ?_, ?_, ?_, ?_, ?_, ?_, ?_, ?_, ?_, ?_, ?_, ?_, ?_, ?_, ?_, ?_, ?_, ?_, trivial⟩ ?_
 ·intro vals w1 hB _ hd
  clear hd
  refine one_value (v := Value.agg #[.int .i64 (3), .int .i64 (2), .int .i64 (0), .int .i64 (0), .int .i64 (0), .int .i64 (0), .int .i64 (0), .slice none 0 0, .slice none 0 0, .slice ((some ⟨S2, 0, none⟩)) 5 5]) rfl ?_ (post_is rfl)
  exact exec_load_row rfl (b := S3) (off := 0) (by kernel_rfl) [.int .i64 (3), .int .i64 (2), .int .i64 (0), .int .i64 (0), .int .i64 (0), .int .i64 (0), .int .i64 (0), .slice none 0 0, .slice none 0 0, .slice ((some ⟨S2, 0, none⟩)) 5 5] (XP.out w1 hB) Try.underlying33 rfl (by kernel_rfl)
 ·intro vals w1 hB _ hd
  clear hd
  refine one_value (v := Value.agg #[.int .i64 (0), .int .i64 (0), .int .i64 (0), .int .i64 (0), .slice none 0 0, .slice none 0 0, .int .i64 (1), .slice none 0 0, .slice qA qN qC, .int .i64 (0)]) rfl ?_ (post_is rfl)
  exact exec_load_row rfl (b := S5) (off := 0) (by kernel_rfl) [.int .i64 (0), .int .i64 (0), .int .i64 (0), .int .i64 (0), .slice none 0 0, .slice none 0 0, .int .i64 (1), .slice none 0 0, .slice qA qN qC, .int .i64 (0)] (XC.out w1 hB) Try.underlying41 rfl (by kernel_rfl)
 ·intro vals w1 hB _ hd
  clear hd
  refine one_calls (f := 42) (args := #[.agg #[.int .i64 (3), .int .i64 (2), .int .i64 (0), .int .i64 (0), .int .i64 (0), .int .i64 (0), .int .i64 (0), .slice none 0 0, .slice none 0 0, .slice ((some ⟨S2, 0, none⟩)) 5 5], .agg #[.int .i64 (0), .int .i64 (0), .int .i64 (0), .int .i64 (0), .slice none 0 0, .slice none 0 0, .int .i64 (1), .slice none 0 0, .slice qA qN qC, .int .i64 (0)]]) (w1 := w1) rfl (by kernel_rfl) ?_
  refine (HGK.out w1 hB).mono ?_
  rintro e1 w3 ⟨rfl, hb⟩
  exact ⟨_, rfl, post_draws rfl hb⟩
 ·intro vals w1 hB _ hd
  clear hd
  refine one_value (v := Value.int .i64 (n)) rfl ?_ (post_is rfl)
  kernel_rfl
 ·intro vals w1 hB _ hd
  clear hd
  refine one_value (v := Value.bool true) rfl ?_ (post_is rfl)
  exact Eq.trans (b := .ok (.value (.bool ((n) == (n)))) w1) (by kernel_rfl) (by rw [hgn])
 ·intro vals w1 hB _ hd
  clear hd
  refine one_value (v := Value.bool true) rfl ?_ (post_is rfl)
  kernel_rfl
 ·intro vals w1 hB _ hd
  clear hd
  refine one_value_g (v := Value.bool true) (by kernel_rfl) ?_ (post_is rfl)
  kernel_rfl
 ·intro vals w1 hB _ hd
  clear hd
  refine one_value (v := Value.bool true) rfl ?_ (post_is rfl)
  kernel_rfl
 ·intro vals w1 hB _ hd
  clear hd
  refine one_value (v := Value.bool true) rfl ?_ (post_is rfl)
  kernel_rfl
 ·intro vals w1 hB _ hd
  clear hd
  refine one_value_g (v := Value.bool false) (by kernel_rfl) ?_ (post_is rfl)
  kernel_rfl
 ·intro vals w1 hB _ hd
  clear hd
  refine one_value_g (v := Value.bool true) (by kernel_rfl) ?_ (post_is rfl)
  kernel_rfl
 ·intro vals w1 hB _ hd
  clear hd
  refine one_value (v := Value.bool true) rfl ?_ (post_is rfl)
  kernel_rfl
 ·intro vals w1 hB _ hd
  clear hd
  refine one_value (v := Value.bool true) rfl ?_ (post_is rfl)
  kernel_rfl
 ·intro vals w1 hB _ hd
  clear hd
  refine one_value_g (v := Value.bool false) (by kernel_rfl) ?_ (post_is rfl)
  kernel_rfl
 ·intro vals w1 hB _ hd
  clear hd
  refine one_value_g (v := Value.bool true) (by kernel_rfl) ?_ (post_is rfl)
  kernel_rfl
 ·intro vals w1 hB _ hd
  clear hd
  refine one_value (v := Value.bool true) rfl ?_ (post_is rfl)
  kernel_rfl
 ·intro vals w1 hB _ hd
  clear hd
  refine one_value (v := Value.bool true) rfl ?_ (post_is rfl)
  kernel_rfl
 ·intro vals w1 hB _ hd
  clear hd
  refine one_value_g (v := Value.pointer (some ⟨S7, 7, none⟩)) (by kernel_rfl) ?_ (post_is rfl)
  kernel_rfl
 ·intro vals w1 hB _ hd
  clear hd
  refine one_value_g (v := Value.slice ((some ⟨pb, po, none⟩)) 1 ybC) (by kernel_rfl) ?_ (post_is rfl)
  exact exec_cell rfl (by kernel_rfl) ((XY.out w1 hB) 7 _ rfl) Try.underlying39 rfl
 ·intro vals w1 hB _ hd
  clear hd
  refine one_value_g (v := Value.int .i64 ((1 : Int))) (by kernel_rfl) ?_ (post_is rfl)
  kernel_rfl
 ·intro vals w1 hB _ hd
  clear hd
  refine one_value_g (v := Value.bool true) (by kernel_rfl) ?_ (post_is rfl)
  kernel_rfl
 ·intro vals w1 hB _ hd
  clear hd
  refine one_value (v := Value.bool true) rfl ?_ (post_is rfl)
  kernel_rfl
 ·intro vals w1 hB _ hd
  clear hd
  refine one_value (v := Value.bool true) rfl ?_ (post_is rfl)
  kernel_rfl
 ·intro vals w1 hB _ hd
  clear hd
  refine one_value_g (v := Value.pointer (some ⟨S7, 7, none⟩)) (by kernel_rfl) ?_ (post_is rfl)
  kernel_rfl
 ·intro vals w1 hB _ hd
  clear hd
  refine one_value_g (v := Value.slice ((some ⟨pb, po, none⟩)) 1 ybC) (by kernel_rfl) ?_ (post_is rfl)
  exact exec_cell rfl (by kernel_rfl) ((XY.out w1 hB) 7 _ rfl) Try.underlying39 rfl
 ·intro vals w1 hB _ hd
  clear hd
  refine one_value_g (v := Value.pointer (some ⟨pb, po, none⟩)) (by kernel_rfl) ?_ (post_is rfl)
  exact (exec_index (b := pb) (off := po) (size := 8) (k := 0) (n := 1) (c := ybC) rfl (by kernel_rfl) (by kernel_rfl) Try.underlying39 (by kernel_rfl) (by omega)).trans (by kernel_rfl)
 ·intro vals w1 hB _ hd
  clear hd
  refine one_value_g (v := Value.agg #[.int .i64 (1), .int .i64 (0), .int .i64 (0), .int .i64 (-1), .int .i64 (nx), .bool dn, .bool false, .bool false]) (by kernel_rfl) ?_ (post_is rfl)
  exact exec_load_row rfl (b := pb) (off := po) (by kernel_rfl) [.int .i64 (1), .int .i64 (0), .int .i64 (0), .int .i64 (-1), .int .i64 (nx), .bool dn, .bool false, .bool false] (XE.out w1 hB) Try.underlying55 rfl (by kernel_rfl)
 ·intro vals w1 hB _ hd
  clear hd
  refine one_value_g (v := Value.int .i64 (nx)) (by kernel_rfl) ?_ (post_is rfl)
  kernel_rfl
 ·intro vals w1 hB _ hd
  clear hd
  refine one_value_g (v := Value.pointer (some ⟨S1, 12, none⟩)) (by kernel_rfl) ?_ (post_is rfl)
  kernel_rfl
 ·intro vals w1 hB _ hd
  clear hd
  refine one_value_g (v := Value.bool dn) (by kernel_rfl) ?_ (post_is rfl)
  exact exec_cell rfl (by kernel_rfl) ((XR.out w1 hB) 12 _ rfl) Try.underlying4 rfl
 ·intro vals w1 hB _ hd
  clear hd
  refine one_value_g (v := Value.agg #[.int .i64 (1), .int .i64 (0), .int .i64 (0), .int .i64 (-1), .int .i64 (nx), .bool dn, .bool false, .bool false]) (by kernel_rfl) ?_ (post_is rfl)
  kernel_rfl
 ·intro vals w1 hB _ hd
  clear hd
  refine one_value_g (v := Value.bool true) (by kernel_rfl) ?_ (post_is rfl)
  have hn := heq0 w1; refine Eq.trans (b := (execOp (Act.eval ⟨#[], []⟩) { dst := none, op := Op.binOp BinOp.eql 55 (.const ((Ent.v ⟨1, 0, 0, -1, nx, dn, false, false⟩))) (.const ((Ent.v ⟨1, 0, 0, -1, nx, dn, false, false⟩))) 55, type := 0, pos := "x", after := #[], guard := none }).run Try.prog w1) (by kernel_rfl) ?_; go_simp
 ·intro vals w1 hB _ hd
  clear hd
  refine one_value (v := Value.bool true) rfl ?_ (post_is rfl)
  kernel_rfl
 ·intro vals w1 hB _ hd
  clear hd
  refine one_value (v := Value.bool true) rfl ?_ (post_is rfl)
  kernel_rfl
 ·intro vals w1 hB _ hd
  clear hd
  refine one_value_g (v := Value.pointer (some ⟨S7, 0, none⟩)) (by kernel_rfl) ?_ (post_is rfl)
  kernel_rfl
 ·intro vals w1 hB _ hd
  clear hd
  refine one_value_g (v := Value.pointer (some ⟨S7, 6, none⟩)) (by kernel_rfl) ?_ (post_is rfl)
  kernel_rfl
 ·intro vals w1 hB _ hd
  clear hd
  refine one_value_g (v := Value.int .i64 (nx)) (by kernel_rfl) ?_ (post_is rfl)
  exact exec_cell rfl (by kernel_rfl) ((XY.out w1 hB) 6 _ rfl) Try.underlying3 rfl
 ·intro vals w1 hB _ hd
  clear hd
  refine one_value_g (v := Value.int .i64 (nx)) (by kernel_rfl) ?_ (post_is rfl)
  kernel_rfl
 ·intro vals w1 hB _ hd
  clear hd
  refine one_value_g (v := Value.bool true) (by kernel_rfl) ?_ (post_is rfl)
  exact Eq.trans (b := .ok (.value (.bool ((nx) == (nx)))) w1) (by kernel_rfl) (by rw [hgx])
 ·intro vals w1 hB _ hd
  clear hd
  refine one_value (v := Value.bool true) rfl ?_ (post_is rfl)
  kernel_rfl
 ·intro vals w1 hB _ hd
  clear hd
  refine one_value (v := Value.bool true) rfl ?_ (post_is rfl)
  kernel_rfl
 ·intro vals w1 hB _ hd
  clear hd
  refine one_value_g (v := Value.pointer (some ⟨S7, 8, none⟩)) (by kernel_rfl) ?_ (post_is rfl)
  kernel_rfl
 ·intro vals w1 hB _ hd
  clear hd
  refine one_value_g (v := Value.slice yqA yqN yqC) (by kernel_rfl) ?_ (post_is rfl)
  exact exec_cell rfl (by kernel_rfl) ((XY.out w1 hB) 8 _ rfl) Try.underlying22 rfl
 ·intro vals w1 hB _ hd
  clear hd
  refine one_value_g (v := Value.int .i64 ((yqN : Int))) (by kernel_rfl) ?_ (post_is rfl)
  kernel_rfl
 ·intro vals w1 hB _ hd
  clear hd
  refine one_value_g (v := Value.int .i64 (rs)) (by kernel_rfl) ?_ (post_is rfl)
  kernel_rfl
 ·intro vals w1 hB _ hd
  clear hd
  refine one_value_g (v := Value.bool true) (by kernel_rfl) ?_ (post_is rfl)
  exact Eq.trans (b := .ok (.value (.bool (((yqN : Int)) == (rs)))) w1) (by kernel_rfl) (by rw [hrs])
 ·intro vals w1 hB _ hd
  clear hd
  refine one_value (v := Value.bool true) rfl ?_ (post_is rfl)
  kernel_rfl
 ·intro vals w1 hB _ hd
  clear hd
  refine one_value (v := Value.bool true) rfl ?_ (post_is rfl)
  kernel_rfl
 ·intro vals w1 hB _ hd
  clear hd
  refine one_calls_g (f := 43) (args := #[]) (w1 := w1) (by kernel_rfl) (by kernel_rfl) ?_
  refine (awake14 w1).mono ?_
  rintro e1 w3 ⟨rfl, hb⟩
  exact ⟨_, rfl, post_draws rfl hb⟩
 ·intro vals w1 hB _ hd
  clear hd
  refine one_value (v := Value.bool true) rfl ?_ (post_is rfl)
  kernel_rfl
 ·intro vals w1 hB _ hd
  clear hd
  refine one_value (v := Value.bool true) rfl ?_ (post_is rfl)
  kernel_rfl
 intro vals w15 b15 _ hr
 clear hr
 simp only [fillT, Tell.is, Tell.draws, Act.put, List.setIfInBounds_toArray, List.set_cons_zero, List.set_cons_succ]
 exact hQ _ _ _ _ _ _ _ _ _ _ _ _ _ _ _ _ _ _ _ _ _ _ _ _ _ _ _ _ _ _ _ _ _ _ _ _ _ _ _ _ _ _ _ _ _ _ _ _ _ _ w15 b15
end Go.Proofs.Ytchldbkjapnlcaa
end
