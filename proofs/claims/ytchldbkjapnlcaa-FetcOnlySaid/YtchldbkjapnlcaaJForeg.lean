/- FetcOnly: the two great regions. -/
import Derived.Test.YtchldbkjapnlcaaJe
import Derived.Test.YtchldbkjapnlcaaJs
import Derived.Test.YtchldbkjapnlcaaJc
import Derived.BigQuiet
set_option linter.unusedVariables false
set_option linter.unusedSimpArgs false
section
namespace Go.Proofs.Ytchldbkjapnlcaa
open Go.RowKit

noncomputable def regFo (id : Nat) : Code := (Try.f10.body.bind (findRegion id)).getD .skip
set_option maxRecDepth 100000 in
set_option maxHeartbeats 2000000 in
theorem fo_reg9 {z0 z1 z2 z3 z4 z5 z6 z8 z9 z11 z12 z16 z17 z18 z19 z20 z21 z22 z23 z24 z25 z26 z27 z28 z29 z30 z31 z32 z33 z34 z35 z36 z37 z38 z39 z40 z41 z42 z43 z44 z45 z46 z47 z48 z49 z50 z51 z52 z53 z54 z55 z56 z57 z58 z59 z60 z61 z62 z63 z64 z65 z66 z67 z68 z69 z70 z71 z72 z73 z74 z75 z76 z77 z78 z79 z80 z81 z82 z83 z84 z85 z86 z87 z88 z89 z90 z91 z92 z93 z94 z95 z96 z97 z98 z99 z100 z101 z102 z103 z104 z105 z106 z107 z108 z109 z110 z111 z112 z113 z114 z115 z116 z117 z118 z119 z120 z121 z122 z123 z124 z125 z126 z127 z128 z129 z130 z131 z132 z133 z134 z135 z136 z137 z138 z139 z140 z141 z142 z143 : Value} (w0 : World) (g7 g10 S1 : Nat) (pW pwin pfuel pr0 pr1 pr2 pr3 : Int) (pmA plA pA : Option Addr) (mln pmC plN plC pN pC : Nat) (r0 r1 r2 r3 cpc fin : Int) (mA kA bA qA : Option Addr) (mN mC kN kC bN bC qN qC : Nat) (x0 x1 x2 x3 xpc : Int) (xmA xsA xqA : Option Addr) (xmN xmC xsN xsC xbC xqN xqC xb xo : Nat)
  (X7 : w0.heap[g7]? = some (.cells #[.int .i64 (pW), .int .i64 (pwin), .int .i64 (pfuel), .int .i64 (pr0), .int .i64 (pr1), .int .i64 (pr2), .int .i64 (pr3), .slice pmA mln pmC, .slice plA plN plC, .slice pA pN pC] 33 (0, 0))) (X10 : w0.heap[g10]? = some (.cells #[.int .i64 (r0), .int .i64 (r1), .int .i64 (r2), .int .i64 (r3), .slice mA mN mC, .slice kA kN kC, .int .i64 (cpc), .slice bA bN bC, .slice qA qN qC, .int .i64 (fin)] 41 (0, 0))) (X13 : w0.heap[S1]? = some (.cells #[.int .i64 (x0), .int .i64 (x1), .int .i64 (x2), .int .i64 (x3), .slice xmA xmN xmC, .slice xsA xsN xsC, .int .i64 (xpc), .slice (some ⟨xb, xo, none⟩) (bN + 1) xbC, .slice xqA xqN xqC, .int .i64 (0)] 41 (0, 0)))
  (q0 : w0.cell? ⟨xb, xo + bN * 8, none⟩ = some (.int .i64 cpc)) (q4 : w0.cell? ⟨xb, xo + bN * 8 + 4, none⟩ = some (.int .i64 xpc)) (hq : xqN ≤ 2) (hw : (bN : Int) + 1 ≤ pwin) (hb3 : bN ≤ 3) (Q : Exit → Act → World → Prop)
  (hQ : ∀ (u49 u50 u51 u52 u53 u54 u55 u56 u57 u58 u59 u60 u61 u62 u63 u64 u65 u66 u67 u68 u69 u70 u71 u72 u73 u74 u75 u76 u77 u78 u79 u80 u81 u82 u83 u84 u85 u86 u87 u88 u89 u90 u91 u92 u93 u94 u95 u96 u97 u98 u99 : Value) (w' : World), Below w0.heap.size w0 w' → Q .normal ⟨#[z0, z1, z2, z3, z4, z5, z6, .pointer (some ⟨g7, 0, none⟩), z8, z9, .pointer (some ⟨g10, 0, none⟩), z11, z12, .pointer (some ⟨S1, 0, none⟩), .bool true, .int .i64 (bN : Int), z16, z17, z18, z19, z20, z21, z22, z23, z24, z25, z26, z27, z28, z29, z30, z31, z32, z33, z34, z35, z36, z37, z38, z39, z40, z41, z42, z43, z44, z45, z46, z47, z48, u49, u50, u51, u52, u53, u54, u55, u56, u57, u58, u59, u60, u61, u62, u63, u64, u65, u66, u67, u68, u69, u70, u71, u72, u73, u74, u75, u76, u77, u78, u79, u80, u81, u82, u83, u84, u85, u86, u87, u88, u89, u90, u91, u92, u93, u94, u95, u96, u97, u98, u99, .bool false, z101, z102, z103, z104, z105, z106, z107, z108, z109, z110, z111, z112, z113, z114, z115, z116, z117, z118, z119, z120, z121, z122, z123, z124, z125, z126, z127, z128, z129, z130, z131, z132, z133, z134, z135, z136, z137, z138, z139, z140, z141, z142, z143], []⟩ w') :
  Code.wp Try.prog (regFo 9) Q ⟨#[z0, z1, z2, z3, z4, z5, z6, .pointer (some ⟨g7, 0, none⟩), z8, z9, .pointer (some ⟨g10, 0, none⟩), z11, z12, .pointer (some ⟨S1, 0, none⟩), .bool true, .int .i64 (bN : Int), z16, z17, z18, z19, z20, z21, z22, z23, z24, z25, z26, z27, z28, z29, z30, z31, z32, z33, z34, z35, z36, z37, z38, z39, z40, z41, z42, z43, z44, z45, z46, z47, z48, z49, z50, z51, z52, z53, z54, z55, z56, z57, z58, z59, z60, z61, z62, z63, z64, z65, z66, z67, z68, z69, z70, z71, z72, z73, z74, z75, z76, z77, z78, z79, z80, z81, z82, z83, z84, z85, z86, z87, z88, z89, z90, z91, z92, z93, z94, z95, z96, z97, z98, z99, z100, z101, z102, z103, z104, z105, z106, z107, z108, z109, z110, z111, z112, z113, z114, z115, z116, z117, z118, z119, z120, z121, z122, z123, z124, z125, z126, z127, z128, z129, z130, z131, z132, z133, z134, z135, z136, z137, z138, z139, z140, z141, z142, z143], []⟩ w0 := by
 conv => arg 2; whnf
 have Y6 := fun j => cell_of_row w0 g7 j _ _ _ X7
 have Y9 := fun j => cell_of_row w0 g10 j _ _ _ X10
 have Y1 := fun j => cell_of_row w0 S1 j _ _ _ X13
 have hlt8 : bN < bN + 1 := Nat.lt_succ_self _
 have hlt9 : (bN : Int) < (bN : Int) + 1 := by omega
 have hlt10 : (bN : Int) < ((bN + 1 : Nat) : Int) := by omega
 have hlt11 : 0 ≤ (bN : Int) := by omega
 have hlt12 : (bN : Int).toNat < bN + 1 := by omega
 have hg1' : ((bN : Int) + 1 != (bN : Int) + 1) = false := by simp
 have hg1'' : (((bN + 1 : Nat) : Int) != (bN : Int) + 1) = false := by simp
 have hg2 : decide ((bN : Int) + 1 > pwin) = false := by simp; omega
 have hg3 : decide ((xqN : Int) > 2) = false := by simp; omega
 have wl : IntKind.i64.wrap ((bN : Int) + 1) = (bN : Int) + 1 := IntWalk.i64_in _ (by omega)
 clear X7 X10 X13
 go_quiet (fail)
 exact hQ _ _ _ _ _ _ _ _ _ _ _ _ _ _ _ _ _ _ _ _ _ _ _ _ _ _ _ _ _ _ _ _ _ _ _ _ _ _ _ _ _ _ _ _ _ _ _ _ _ _ _ _ ⟨rfl, rfl, rfl, Nat.le_refl _, fun _ _ => rfl⟩
set_option maxRecDepth 100000 in
set_option maxHeartbeats 2000000 in
theorem fo_end1 {z0 z1 z2 z3 z4 z5 z6 z8 z9 z11 z12 z13 z14 z15 z16 z17 z18 z19 z20 z21 z22 z23 z24 z25 z26 z27 z28 z29 z30 z31 z32 z33 z34 z35 z36 z37 z38 z39 z40 z41 z42 z43 z44 z45 z46 z47 z48 z49 z50 z51 z52 z53 z54 z55 z56 z57 z58 z59 z60 z61 z62 z63 z64 z65 z66 z67 z68 z69 z70 z71 z72 z73 z74 z75 z76 z77 z78 z79 z80 z81 z82 z83 z84 z85 z86 z87 z88 z89 z90 z91 z92 z93 z94 z95 z96 z97 z98 z99 z100 z101 z102 z103 z104 z105 z106 z107 z108 z109 z110 z111 z112 z113 z114 z115 z116 z117 z118 z119 z120 z121 z122 z123 z124 z125 z126 z127 z128 z129 z130 z131 z132 z133 z134 z135 z136 z137 z138 z139 z140 z141 z142 z143 : Value} (w0 : World) (g7 g10 S1 : Nat) (pW pwin pfuel pr0 pr1 pr2 pr3 : Int) (pmA plA pA : Option Addr) (mln pmC plN plC pN pC : Nat) (r0 r1 r2 r3 cpc fin : Int) (mA kA bA qA : Option Addr) (mN mC kN kC bN bC qN qC : Nat) (g : Int) (XPK : Kept (∀ w1, Below w0.heap.size w0 w1 → CellsAt w1 g7 0 [.int .i64 (pW), .int .i64 (pwin), .int .i64 (pfuel), .int .i64 (pr0), .int .i64 (pr1), .int .i64 (pr2), .int .i64 (pr3), .slice pmA mln pmC, .slice plA plN plC, .slice pA pN pC])) (XCK : Kept (∀ w1, Below w0.heap.size w0 w1 → CellsAt w1 g10 0 [.int .i64 (r0), .int .i64 (r1), .int .i64 (r2), .int .i64 (r3), .slice mA mN mC, .slice kA kN kC, .int .i64 (cpc), .slice bA bN bC, .slice qA qN qC, .int .i64 (fin)]))
  (HGK : Kept (∀ w1, Below w0.heap.size w0 w1 → Calls Try.prog 42 #[.agg #[.int .i64 (pW), .int .i64 (pwin), .int .i64 (pfuel), .int .i64 (pr0), .int .i64 (pr1), .int .i64 (pr2), .int .i64 (pr3), .slice pmA mln pmC, .slice plA plN plC, .slice pA pN pC], .agg #[.int .i64 (r0), .int .i64 (r1), .int .i64 (r2), .int .i64 (r3), .slice mA mN mC, .slice kA kN kC, .int .i64 (cpc), .slice bA bN bC, .slice qA qN qC, .int .i64 (fin)]] w1 fun en w' => en = .returned (.int .i64 g) ∧ Below w1.heap.size w1 w')) (hn0 : (g == 0) = true) (hqf : (fin != 0) = true) (Q : Exit → Act → World → Prop)
  (hQ : ∀ (u119 u120 u121 u122 u123 u124 u125 u126 u127 u128 u129 u130 u131 u132 u133 u134 u135 u136 u137 u138 u139 u140 u141 u142 u143 : Value) (w' : World), Below w0.heap.size w0 w' → Q .normal ⟨#[z0, z1, z2, z3, z4, z5, .bool true, .pointer (some ⟨g7, 0, none⟩), z8, z9, .pointer (some ⟨g10, 0, none⟩), z11, z12, z13, z14, z15, z16, z17, z18, z19, z20, z21, z22, z23, z24, z25, z26, z27, z28, z29, z30, z31, z32, z33, z34, z35, z36, z37, z38, z39, z40, z41, z42, z43, z44, z45, z46, z47, z48, z49, z50, z51, z52, z53, z54, z55, z56, z57, z58, z59, z60, z61, z62, z63, z64, z65, z66, z67, z68, z69, z70, z71, z72, z73, z74, z75, z76, z77, z78, z79, z80, z81, z82, z83, z84, z85, z86, z87, z88, z89, z90, z91, z92, z93, z94, z95, z96, z97, z98, z99, z100, z101, z102, z103, z104, z105, z106, z107, z108, z109, z110, z111, z112, z113, z114, z115, z116, z117, z118, u119, u120, u121, u122, u123, u124, u125, u126, u127, u128, u129, u130, u131, u132, u133, u134, u135, u136, u137, u138, u139, u140, u141, u142, u143], []⟩ w') :
  Code.wp Try.prog (regFo 15) Q ⟨#[z0, z1, z2, z3, z4, z5, z6, .pointer (some ⟨g7, 0, none⟩), z8, z9, .pointer (some ⟨g10, 0, none⟩), z11, z12, z13, z14, z15, z16, z17, z18, z19, z20, z21, z22, z23, z24, z25, z26, z27, z28, z29, z30, z31, z32, z33, z34, z35, z36, z37, z38, z39, z40, z41, z42, z43, z44, z45, z46, z47, z48, z49, z50, z51, z52, z53, z54, z55, z56, z57, z58, z59, z60, z61, z62, z63, z64, z65, z66, z67, z68, z69, z70, z71, z72, z73, z74, z75, z76, z77, z78, z79, z80, z81, z82, z83, z84, z85, z86, z87, z88, z89, z90, z91, z92, z93, z94, z95, z96, z97, z98, z99, z100, z101, z102, z103, z104, z105, z106, z107, z108, z109, z110, z111, z112, z113, z114, z115, z116, z117, z118, z119, z120, z121, z122, z123, z124, z125, z126, z127, z128, z129, z130, z131, z132, z133, z134, z135, z136, z137, z138, z139, z140, z141, z142, z143], []⟩ w0 := by
 conv => arg 2; whnf
 have heq : (true == true) = true := rfl
 refine region_tell (w0.heap.size) (G := fun _ => True) (ts := [
   .is (Value.agg #[.int .i64 (pW), .int .i64 (pwin), .int .i64 (pfuel), .int .i64 (pr0), .int .i64 (pr1), .int .i64 (pr2), .int .i64 (pr3), .slice pmA mln pmC, .slice plA plN plC, .slice pA pN pC]),
   .is (Value.agg #[.int .i64 (r0), .int .i64 (r1), .int .i64 (r2), .int .i64 (r3), .slice mA mN mC, .slice kA kN kC, .int .i64 (cpc), .slice bA bN bC, .slice qA qN qC, .int .i64 (fin)]),
   .draws (.int .i64 g),
   .is (Value.bool true),
   .is (Value.pointer (some ⟨g10, 9, none⟩)),
   .is (Value.int .i64 (fin)),
   .is (Value.bool true),
   .is (Value.bool true),
   .is undef,
   .is undef,
   .is undef,
   .is undef,
   .is (Value.bool true),
   .is (Value.bool true),
   .is undef,
   .is undef,
   .is undef,
   .is undef,
   .is undef,
   .is undef,
   .is (Value.bool true),
   .is (Value.bool true),
   .is (Value.bool true),
   .draws (.bool true),
   .is (Value.bool true),
   .is (Value.bool true)])
  (fin := []) (cs := []) (by kernel_rfl) rfl (by kernel_rfl) (by kernel_rfl)
  ⟨trivial, trivial, trivial, trivial, trivial, trivial, trivial, trivial, trivial, trivial, trivial, trivial, trivial, trivial, trivial, trivial, trivial, trivial, trivial, trivial, trivial, trivial, trivial, trivial, trivial, trivial, trivial⟩ (fun _ _ _ _ => trivial) (by simp) (by simp) trivial
  ⟨?_, ?_, ?_, ?_, ?_, ?_, ?_, ?_, ?_, ?_, ?_, ?_, ?_, ?_, ?_, ?_, ?_, ?_, ?_, ?_, ?_, ?_, ?_, ?_, ?_, ?_, trivial⟩ ?_
 ·intro vals w1 hB _ hd
  clear hd
  refine one_value (v := Value.agg #[.int .i64 (pW), .int .i64 (pwin), .int .i64 (pfuel), .int .i64 (pr0), .int .i64 (pr1), .int .i64 (pr2), .int .i64 (pr3), .slice pmA mln pmC, .slice plA plN plC, .slice pA pN pC]) rfl ?_ (post_is rfl)
  exact exec_load_row rfl (b := g7) (off := 0) (by kernel_rfl) [.int .i64 (pW), .int .i64 (pwin), .int .i64 (pfuel), .int .i64 (pr0), .int .i64 (pr1), .int .i64 (pr2), .int .i64 (pr3), .slice pmA mln pmC, .slice plA plN plC, .slice pA pN pC] (XPK.out w1 hB) Try.underlying33 rfl (by kernel_rfl)
 ·intro vals w1 hB _ hd
  clear hd
  refine one_value (v := Value.agg #[.int .i64 (r0), .int .i64 (r1), .int .i64 (r2), .int .i64 (r3), .slice mA mN mC, .slice kA kN kC, .int .i64 (cpc), .slice bA bN bC, .slice qA qN qC, .int .i64 (fin)]) rfl ?_ (post_is rfl)
  exact exec_load_row rfl (b := g10) (off := 0) (by kernel_rfl) [.int .i64 (r0), .int .i64 (r1), .int .i64 (r2), .int .i64 (r3), .slice mA mN mC, .slice kA kN kC, .int .i64 (cpc), .slice bA bN bC, .slice qA qN qC, .int .i64 (fin)] (XCK.out w1 hB) Try.underlying41 rfl (by kernel_rfl)
 ·intro vals w1 hB _ hd
  clear hd
  refine one_calls (f := 42) (args := #[.agg #[.int .i64 (pW), .int .i64 (pwin), .int .i64 (pfuel), .int .i64 (pr0), .int .i64 (pr1), .int .i64 (pr2), .int .i64 (pr3), .slice pmA mln pmC, .slice plA plN plC, .slice pA pN pC], .agg #[.int .i64 (r0), .int .i64 (r1), .int .i64 (r2), .int .i64 (r3), .slice mA mN mC, .slice kA kN kC, .int .i64 (cpc), .slice bA bN bC, .slice qA qN qC, .int .i64 (fin)]]) (w1 := w1) rfl (by kernel_rfl) ?_
  refine (HGK.out w1 hB).mono ?_
  rintro e1 w3 ⟨rfl, hb⟩
  exact ⟨_, rfl, post_draws rfl hb⟩
 ·intro vals w1 hB _ hd
  clear hd
  refine one_value (v := Value.bool true) rfl ?_ (post_is rfl)
  exact Eq.trans (b := .ok (.value (.bool ((g) == (0)))) w1) (by kernel_rfl) (by rw [hn0])
 ·intro vals w1 hB _ hd
  clear hd
  refine one_value (v := Value.pointer (some ⟨g10, 9, none⟩)) rfl ?_ (post_is rfl)
  kernel_rfl
 ·intro vals w1 hB _ hd
  clear hd
  refine one_value (v := Value.int .i64 (fin)) rfl ?_ (post_is rfl)
  exact exec_cell rfl (by kernel_rfl) ((XCK.out w1 hB) 9 _ rfl) Try.underlying3 rfl
 ·intro vals w1 hB _ hd
  clear hd
  refine one_value (v := Value.bool true) rfl ?_ (post_is rfl)
  exact Eq.trans (b := .ok (.value (.bool ((fin) != (0)))) w1) (by kernel_rfl) (by rw [hqf])
 ·intro vals w1 hB _ hd
  clear hd
  refine one_value (v := Value.bool true) rfl ?_ (post_is rfl)
  kernel_rfl
 ·intro vals w1 hB _ hd
  clear hd
  exact one_not (by kernel_rfl) (post_is rfl)
 ·intro vals w1 hB _ hd
  clear hd
  exact one_not (by kernel_rfl) (post_is rfl)
 ·intro vals w1 hB _ hd
  clear hd
  exact one_not (by kernel_rfl) (post_is rfl)
 ·intro vals w1 hB _ hd
  clear hd
  exact one_not (by kernel_rfl) (post_is rfl)
 ·intro vals w1 hB _ hd
  clear hd
  refine one_value (v := Value.bool true) rfl ?_ (post_is rfl)
  kernel_rfl
 ·intro vals w1 hB _ hd
  clear hd
  refine one_value (v := Value.bool true) rfl ?_ (post_is rfl)
  kernel_rfl
 ·intro vals w1 hB _ hd
  clear hd
  exact one_not (by kernel_rfl) (post_is rfl)
 ·intro vals w1 hB _ hd
  clear hd
  exact one_not (by kernel_rfl) (post_is rfl)
 ·intro vals w1 hB _ hd
  clear hd
  exact one_not (by kernel_rfl) (post_is rfl)
 ·intro vals w1 hB _ hd
  clear hd
  exact one_not (by kernel_rfl) (post_is rfl)
 ·intro vals w1 hB _ hd
  clear hd
  exact one_not (by kernel_rfl) (post_is rfl)
 ·intro vals w1 hB _ hd
  clear hd
  exact one_not (by kernel_rfl) (post_is rfl)
 ·intro vals w1 hB _ hd
  clear hd
  refine one_value (v := Value.bool true) rfl ?_ (post_is rfl)
  kernel_rfl
 ·intro vals w1 hB _ hd
  clear hd
  refine one_value (v := Value.bool true) rfl ?_ (post_is rfl)
  exact Eq.trans (b := .ok (.value (.bool ((true) == (true)))) w1) (by kernel_rfl) (by rw [heq])
 ·intro vals w1 hB _ hd
  clear hd
  refine one_value (v := Value.bool true) rfl ?_ (post_is rfl)
  kernel_rfl
 ·intro vals w1 hB _ hd
  clear hd
  refine one_calls_g (f := 43) (args := #[]) (w1 := w1) (by kernel_rfl) (by kernel_rfl) ?_
  refine (awake14 w1).mono ?_
  rintro e1 w3 ⟨rfl, hb⟩
  exact ⟨_, rfl, post_draws rfl hb⟩
 ·intro vals w1 hB _ hd
  clear hd
  refine one_value (v := Value.bool true) rfl ?_ (post_is rfl)
  kernel_rfl
 ·intro vals w1 hB _ hd
  clear hd
  refine one_value (v := Value.bool true) rfl ?_ (post_is rfl)
  kernel_rfl
 intro vals w15 b15 _ hr
 clear hr
 simp only [fillT, Tell.is, Tell.draws, Act.put, List.setIfInBounds_toArray, List.set_cons_zero, List.set_cons_succ]
 exact hQ _ _ _ _ _ _ _ _ _ _ _ _ _ _ _ _ _ _ _ _ _ _ _ _ _ w15 b15
set_option maxRecDepth 100000 in
set_option maxHeartbeats 2000000 in
theorem fo_end2 {z0 z1 z2 z3 z4 z5 z6 z8 z9 z11 z12 z13 z14 z15 z16 z17 z18 z19 z20 z21 z22 z23 z24 z25 z26 z27 z28 z29 z30 z31 z32 z33 z34 z35 z36 z37 z38 z39 z40 z41 z42 z43 z44 z45 z46 z47 z48 z49 z50 z51 z52 z53 z54 z55 z56 z57 z58 z59 z60 z61 z62 z63 z64 z65 z66 z67 z68 z69 z70 z71 z72 z73 z74 z75 z76 z77 z78 z79 z80 z81 z82 z83 z84 z85 z86 z87 z88 z89 z90 z91 z92 z93 z94 z95 z96 z97 z98 z99 z100 z101 z102 z103 z104 z105 z106 z107 z108 z109 z110 z111 z112 z113 z114 z115 z116 z117 z118 z119 z120 z121 z122 z123 z124 z125 z126 z127 z128 z129 z130 z131 z132 z133 z134 z135 z136 z137 z138 z139 z140 z141 z142 z143 : Value} (w0 : World) (g7 g10 S1 : Nat) (pW pwin pfuel pr0 pr1 pr2 pr3 : Int) (pmA plA pA : Option Addr) (mln pmC plN plC pN pC : Nat) (r0 r1 r2 r3 cpc fin : Int) (mA kA bA qA : Option Addr) (mN mC kN kC bN bC qN qC : Nat) (g : Int) (XPK : Kept (∀ w1, Below w0.heap.size w0 w1 → CellsAt w1 g7 0 [.int .i64 (pW), .int .i64 (pwin), .int .i64 (pfuel), .int .i64 (pr0), .int .i64 (pr1), .int .i64 (pr2), .int .i64 (pr3), .slice pmA mln pmC, .slice plA plN plC, .slice pA pN pC])) (XCK : Kept (∀ w1, Below w0.heap.size w0 w1 → CellsAt w1 g10 0 [.int .i64 (r0), .int .i64 (r1), .int .i64 (r2), .int .i64 (r3), .slice mA mN mC, .slice kA kN kC, .int .i64 (cpc), .slice bA bN bC, .slice qA qN qC, .int .i64 (fin)]))
  (HGK : Kept (∀ w1, Below w0.heap.size w0 w1 → Calls Try.prog 42 #[.agg #[.int .i64 (pW), .int .i64 (pwin), .int .i64 (pfuel), .int .i64 (pr0), .int .i64 (pr1), .int .i64 (pr2), .int .i64 (pr3), .slice pmA mln pmC, .slice plA plN plC, .slice pA pN pC], .agg #[.int .i64 (r0), .int .i64 (r1), .int .i64 (r2), .int .i64 (r3), .slice mA mN mC, .slice kA kN kC, .int .i64 (cpc), .slice bA bN bC, .slice qA qN qC, .int .i64 (fin)]] w1 fun en w' => en = .returned (.int .i64 g) ∧ Below w1.heap.size w1 w')) (hn0 : (g == 0) = true) (hqf : (fin != 0) = false) (hqp : (cpc == -1) = true) (Q : Exit → Act → World → Prop)
  (hQ : ∀ (u119 u120 u121 u122 u123 u124 u125 u126 u127 u128 u129 u130 u131 u132 u133 u134 u135 u136 u137 u138 u139 u140 u141 u142 u143 : Value) (w' : World), Below w0.heap.size w0 w' → Q .normal ⟨#[z0, z1, z2, z3, z4, z5, .bool true, .pointer (some ⟨g7, 0, none⟩), z8, z9, .pointer (some ⟨g10, 0, none⟩), z11, z12, z13, z14, z15, z16, z17, z18, z19, z20, z21, z22, z23, z24, z25, z26, z27, z28, z29, z30, z31, z32, z33, z34, z35, z36, z37, z38, z39, z40, z41, z42, z43, z44, z45, z46, z47, z48, z49, z50, z51, z52, z53, z54, z55, z56, z57, z58, z59, z60, z61, z62, z63, z64, z65, z66, z67, z68, z69, z70, z71, z72, z73, z74, z75, z76, z77, z78, z79, z80, z81, z82, z83, z84, z85, z86, z87, z88, z89, z90, z91, z92, z93, z94, z95, z96, z97, z98, z99, z100, z101, z102, z103, z104, z105, z106, z107, z108, z109, z110, z111, z112, z113, z114, z115, z116, z117, z118, u119, u120, u121, u122, u123, u124, u125, u126, u127, u128, u129, u130, u131, u132, u133, u134, u135, u136, u137, u138, u139, u140, u141, u142, u143], []⟩ w') :
  Code.wp Try.prog (regFo 15) Q ⟨#[z0, z1, z2, z3, z4, z5, z6, .pointer (some ⟨g7, 0, none⟩), z8, z9, .pointer (some ⟨g10, 0, none⟩), z11, z12, z13, z14, z15, z16, z17, z18, z19, z20, z21, z22, z23, z24, z25, z26, z27, z28, z29, z30, z31, z32, z33, z34, z35, z36, z37, z38, z39, z40, z41, z42, z43, z44, z45, z46, z47, z48, z49, z50, z51, z52, z53, z54, z55, z56, z57, z58, z59, z60, z61, z62, z63, z64, z65, z66, z67, z68, z69, z70, z71, z72, z73, z74, z75, z76, z77, z78, z79, z80, z81, z82, z83, z84, z85, z86, z87, z88, z89, z90, z91, z92, z93, z94, z95, z96, z97, z98, z99, z100, z101, z102, z103, z104, z105, z106, z107, z108, z109, z110, z111, z112, z113, z114, z115, z116, z117, z118, z119, z120, z121, z122, z123, z124, z125, z126, z127, z128, z129, z130, z131, z132, z133, z134, z135, z136, z137, z138, z139, z140, z141, z142, z143], []⟩ w0 := by
 conv => arg 2; whnf
 have heq : (true == true) = true := rfl
 refine region_tell (w0.heap.size) (G := fun _ => True) (ts := [
   .is (Value.agg #[.int .i64 (pW), .int .i64 (pwin), .int .i64 (pfuel), .int .i64 (pr0), .int .i64 (pr1), .int .i64 (pr2), .int .i64 (pr3), .slice pmA mln pmC, .slice plA plN plC, .slice pA pN pC]),
   .is (Value.agg #[.int .i64 (r0), .int .i64 (r1), .int .i64 (r2), .int .i64 (r3), .slice mA mN mC, .slice kA kN kC, .int .i64 (cpc), .slice bA bN bC, .slice qA qN qC, .int .i64 (fin)]),
   .draws (.int .i64 g),
   .is (Value.bool true),
   .is (Value.pointer (some ⟨g10, 9, none⟩)),
   .is (Value.int .i64 (fin)),
   .is (Value.bool false),
   .is (Value.bool false),
   .is (Value.pointer (some ⟨g10, 0, none⟩)),
   .is (Value.pointer (some ⟨g10, 6, none⟩)),
   .is (Value.int .i64 (cpc)),
   .is (Value.bool true),
   .is (Value.bool true),
   .is (Value.bool true),
   .is undef,
   .is undef,
   .is undef,
   .is undef,
   .is undef,
   .is undef,
   .is (Value.bool true),
   .is (Value.bool true),
   .is (Value.bool true),
   .draws (.bool true),
   .is (Value.bool true),
   .is (Value.bool true)])
  (fin := []) (cs := []) (by kernel_rfl) rfl (by kernel_rfl) (by kernel_rfl)
  ⟨trivial, trivial, trivial, trivial, trivial, trivial, trivial, trivial, trivial, trivial, trivial, trivial, trivial, trivial, trivial, trivial, trivial, trivial, trivial, trivial, trivial, trivial, trivial, trivial, trivial, trivial, trivial⟩ (fun _ _ _ _ => trivial) (by simp) (by simp) trivial
  ⟨?_, ?_, ?_, ?_, ?_, ?_, ?_, ?_, ?_, ?_, ?_, ?_, ?_, ?_, ?_, ?_, ?_, ?_, ?_, ?_, ?_, ?_, ?_, ?_, ?_, ?_, trivial⟩ ?_
 ·intro vals w1 hB _ hd
  clear hd
  refine one_value (v := Value.agg #[.int .i64 (pW), .int .i64 (pwin), .int .i64 (pfuel), .int .i64 (pr0), .int .i64 (pr1), .int .i64 (pr2), .int .i64 (pr3), .slice pmA mln pmC, .slice plA plN plC, .slice pA pN pC]) rfl ?_ (post_is rfl)
  exact exec_load_row rfl (b := g7) (off := 0) (by kernel_rfl) [.int .i64 (pW), .int .i64 (pwin), .int .i64 (pfuel), .int .i64 (pr0), .int .i64 (pr1), .int .i64 (pr2), .int .i64 (pr3), .slice pmA mln pmC, .slice plA plN plC, .slice pA pN pC] (XPK.out w1 hB) Try.underlying33 rfl (by kernel_rfl)
 ·intro vals w1 hB _ hd
  clear hd
  refine one_value (v := Value.agg #[.int .i64 (r0), .int .i64 (r1), .int .i64 (r2), .int .i64 (r3), .slice mA mN mC, .slice kA kN kC, .int .i64 (cpc), .slice bA bN bC, .slice qA qN qC, .int .i64 (fin)]) rfl ?_ (post_is rfl)
  exact exec_load_row rfl (b := g10) (off := 0) (by kernel_rfl) [.int .i64 (r0), .int .i64 (r1), .int .i64 (r2), .int .i64 (r3), .slice mA mN mC, .slice kA kN kC, .int .i64 (cpc), .slice bA bN bC, .slice qA qN qC, .int .i64 (fin)] (XCK.out w1 hB) Try.underlying41 rfl (by kernel_rfl)
 ·intro vals w1 hB _ hd
  clear hd
  refine one_calls (f := 42) (args := #[.agg #[.int .i64 (pW), .int .i64 (pwin), .int .i64 (pfuel), .int .i64 (pr0), .int .i64 (pr1), .int .i64 (pr2), .int .i64 (pr3), .slice pmA mln pmC, .slice plA plN plC, .slice pA pN pC], .agg #[.int .i64 (r0), .int .i64 (r1), .int .i64 (r2), .int .i64 (r3), .slice mA mN mC, .slice kA kN kC, .int .i64 (cpc), .slice bA bN bC, .slice qA qN qC, .int .i64 (fin)]]) (w1 := w1) rfl (by kernel_rfl) ?_
  refine (HGK.out w1 hB).mono ?_
  rintro e1 w3 ⟨rfl, hb⟩
  exact ⟨_, rfl, post_draws rfl hb⟩
 ·intro vals w1 hB _ hd
  clear hd
  refine one_value (v := Value.bool true) rfl ?_ (post_is rfl)
  exact Eq.trans (b := .ok (.value (.bool ((g) == (0)))) w1) (by kernel_rfl) (by rw [hn0])
 ·intro vals w1 hB _ hd
  clear hd
  refine one_value (v := Value.pointer (some ⟨g10, 9, none⟩)) rfl ?_ (post_is rfl)
  kernel_rfl
 ·intro vals w1 hB _ hd
  clear hd
  refine one_value (v := Value.int .i64 (fin)) rfl ?_ (post_is rfl)
  exact exec_cell rfl (by kernel_rfl) ((XCK.out w1 hB) 9 _ rfl) Try.underlying3 rfl
 ·intro vals w1 hB _ hd
  clear hd
  refine one_value (v := Value.bool false) rfl ?_ (post_is rfl)
  exact Eq.trans (b := .ok (.value (.bool ((fin) != (0)))) w1) (by kernel_rfl) (by rw [hqf])
 ·intro vals w1 hB _ hd
  clear hd
  refine one_value (v := Value.bool false) rfl ?_ (post_is rfl)
  kernel_rfl
 ·intro vals w1 hB _ hd
  clear hd
  refine one_value_g (v := Value.pointer (some ⟨g10, 0, none⟩)) (by kernel_rfl) ?_ (post_is rfl)
  kernel_rfl
 ·intro vals w1 hB _ hd
  clear hd
  refine one_value_g (v := Value.pointer (some ⟨g10, 6, none⟩)) (by kernel_rfl) ?_ (post_is rfl)
  kernel_rfl
 ·intro vals w1 hB _ hd
  clear hd
  refine one_value_g (v := Value.int .i64 (cpc)) (by kernel_rfl) ?_ (post_is rfl)
  exact exec_cell rfl (by kernel_rfl) ((XCK.out w1 hB) 6 _ rfl) Try.underlying3 rfl
 ·intro vals w1 hB _ hd
  clear hd
  refine one_value_g (v := Value.bool true) (by kernel_rfl) ?_ (post_is rfl)
  exact Eq.trans (b := .ok (.value (.bool ((cpc) == (-1)))) w1) (by kernel_rfl) (by rw [hqp])
 ·intro vals w1 hB _ hd
  clear hd
  refine one_value (v := Value.bool true) rfl ?_ (post_is rfl)
  kernel_rfl
 ·intro vals w1 hB _ hd
  clear hd
  refine one_value (v := Value.bool true) rfl ?_ (post_is rfl)
  kernel_rfl
 ·intro vals w1 hB _ hd
  clear hd
  exact one_not (by kernel_rfl) (post_is rfl)
 ·intro vals w1 hB _ hd
  clear hd
  exact one_not (by kernel_rfl) (post_is rfl)
 ·intro vals w1 hB _ hd
  clear hd
  exact one_not (by kernel_rfl) (post_is rfl)
 ·intro vals w1 hB _ hd
  clear hd
  exact one_not (by kernel_rfl) (post_is rfl)
 ·intro vals w1 hB _ hd
  clear hd
  exact one_not (by kernel_rfl) (post_is rfl)
 ·intro vals w1 hB _ hd
  clear hd
  exact one_not (by kernel_rfl) (post_is rfl)
 ·intro vals w1 hB _ hd
  clear hd
  refine one_value (v := Value.bool true) rfl ?_ (post_is rfl)
  kernel_rfl
 ·intro vals w1 hB _ hd
  clear hd
  refine one_value (v := Value.bool true) rfl ?_ (post_is rfl)
  exact Eq.trans (b := .ok (.value (.bool ((true) == (true)))) w1) (by kernel_rfl) (by rw [heq])
 ·intro vals w1 hB _ hd
  clear hd
  refine one_value (v := Value.bool true) rfl ?_ (post_is rfl)
  kernel_rfl
 ·intro vals w1 hB _ hd
  clear hd
  refine one_calls_g (f := 43) (args := #[]) (w1 := w1) (by kernel_rfl) (by kernel_rfl) ?_
  refine (awake14 w1).mono ?_
  rintro e1 w3 ⟨rfl, hb⟩
  exact ⟨_, rfl, post_draws rfl hb⟩
 ·intro vals w1 hB _ hd
  clear hd
  refine one_value (v := Value.bool true) rfl ?_ (post_is rfl)
  kernel_rfl
 ·intro vals w1 hB _ hd
  clear hd
  refine one_value (v := Value.bool true) rfl ?_ (post_is rfl)
  kernel_rfl
 intro vals w15 b15 _ hr
 clear hr
 simp only [fillT, Tell.is, Tell.draws, Act.put, List.setIfInBounds_toArray, List.set_cons_zero, List.set_cons_succ]
 exact hQ _ _ _ _ _ _ _ _ _ _ _ _ _ _ _ _ _ _ _ _ _ _ _ _ _ w15 b15
set_option maxRecDepth 100000 in
set_option maxHeartbeats 2000000 in
theorem fo_end3 {z0 z1 z2 z3 z4 z5 z6 z8 z9 z11 z12 z13 z14 z15 z16 z17 z18 z19 z20 z21 z22 z23 z24 z25 z26 z27 z28 z29 z30 z31 z32 z33 z34 z35 z36 z37 z38 z39 z40 z41 z42 z43 z44 z45 z46 z47 z48 z49 z50 z51 z52 z53 z54 z55 z56 z57 z58 z59 z60 z61 z62 z63 z64 z65 z66 z67 z68 z69 z70 z71 z72 z73 z74 z75 z76 z77 z78 z79 z80 z81 z82 z83 z84 z85 z86 z87 z88 z89 z90 z91 z92 z93 z94 z95 z96 z97 z98 z99 z100 z101 z102 z103 z104 z105 z106 z107 z108 z109 z110 z111 z112 z113 z114 z115 z116 z117 z118 z119 z120 z121 z122 z123 z124 z125 z126 z127 z128 z129 z130 z131 z132 z133 z134 z135 z136 z137 z138 z139 z140 z141 z142 z143 : Value} (w0 : World) (g7 g10 S1 : Nat) (pW pwin pfuel pr0 pr1 pr2 pr3 : Int) (pmA plA pA : Option Addr) (mln pmC plN plC pN pC : Nat) (r0 r1 r2 r3 cpc fin : Int) (mA kA bA qA : Option Addr) (mN mC kN kC bN bC qN qC : Nat) (g : Int) (XPK : Kept (∀ w1, Below w0.heap.size w0 w1 → CellsAt w1 g7 0 [.int .i64 (pW), .int .i64 (pwin), .int .i64 (pfuel), .int .i64 (pr0), .int .i64 (pr1), .int .i64 (pr2), .int .i64 (pr3), .slice pmA mln pmC, .slice plA plN plC, .slice pA pN pC])) (XCK : Kept (∀ w1, Below w0.heap.size w0 w1 → CellsAt w1 g10 0 [.int .i64 (r0), .int .i64 (r1), .int .i64 (r2), .int .i64 (r3), .slice mA mN mC, .slice kA kN kC, .int .i64 (cpc), .slice bA bN bC, .slice qA qN qC, .int .i64 (fin)]))
  (HGK : Kept (∀ w1, Below w0.heap.size w0 w1 → Calls Try.prog 42 #[.agg #[.int .i64 (pW), .int .i64 (pwin), .int .i64 (pfuel), .int .i64 (pr0), .int .i64 (pr1), .int .i64 (pr2), .int .i64 (pr3), .slice pmA mln pmC, .slice plA plN plC, .slice pA pN pC], .agg #[.int .i64 (r0), .int .i64 (r1), .int .i64 (r2), .int .i64 (r3), .slice mA mN mC, .slice kA kN kC, .int .i64 (cpc), .slice bA bN bC, .slice qA qN qC, .int .i64 (fin)]] w1 fun en w' => en = .returned (.int .i64 g) ∧ Below w1.heap.size w1 w')) (hn0 : (g == 0) = true) (hqf : (fin != 0) = false) (hqp : (cpc == -1) = false) (hqw : ((bN : Int) == pwin) = true) (Q : Exit → Act → World → Prop)
  (hQ : ∀ (u119 u120 u121 u122 u123 u124 u125 u126 u127 u128 u129 u130 u131 u132 u133 u134 u135 u136 u137 u138 u139 u140 u141 u142 u143 : Value) (w' : World), Below w0.heap.size w0 w' → Q .normal ⟨#[z0, z1, z2, z3, z4, z5, .bool true, .pointer (some ⟨g7, 0, none⟩), z8, z9, .pointer (some ⟨g10, 0, none⟩), z11, z12, z13, z14, z15, z16, z17, z18, z19, z20, z21, z22, z23, z24, z25, z26, z27, z28, z29, z30, z31, z32, z33, z34, z35, z36, z37, z38, z39, z40, z41, z42, z43, z44, z45, z46, z47, z48, z49, z50, z51, z52, z53, z54, z55, z56, z57, z58, z59, z60, z61, z62, z63, z64, z65, z66, z67, z68, z69, z70, z71, z72, z73, z74, z75, z76, z77, z78, z79, z80, z81, z82, z83, z84, z85, z86, z87, z88, z89, z90, z91, z92, z93, z94, z95, z96, z97, z98, z99, z100, z101, z102, z103, z104, z105, z106, z107, z108, z109, z110, z111, z112, z113, z114, z115, z116, z117, z118, u119, u120, u121, u122, u123, u124, u125, u126, u127, u128, u129, u130, u131, u132, u133, u134, u135, u136, u137, u138, u139, u140, u141, u142, u143], []⟩ w') :
  Code.wp Try.prog (regFo 15) Q ⟨#[z0, z1, z2, z3, z4, z5, z6, .pointer (some ⟨g7, 0, none⟩), z8, z9, .pointer (some ⟨g10, 0, none⟩), z11, z12, z13, z14, z15, z16, z17, z18, z19, z20, z21, z22, z23, z24, z25, z26, z27, z28, z29, z30, z31, z32, z33, z34, z35, z36, z37, z38, z39, z40, z41, z42, z43, z44, z45, z46, z47, z48, z49, z50, z51, z52, z53, z54, z55, z56, z57, z58, z59, z60, z61, z62, z63, z64, z65, z66, z67, z68, z69, z70, z71, z72, z73, z74, z75, z76, z77, z78, z79, z80, z81, z82, z83, z84, z85, z86, z87, z88, z89, z90, z91, z92, z93, z94, z95, z96, z97, z98, z99, z100, z101, z102, z103, z104, z105, z106, z107, z108, z109, z110, z111, z112, z113, z114, z115, z116, z117, z118, z119, z120, z121, z122, z123, z124, z125, z126, z127, z128, z129, z130, z131, z132, z133, z134, z135, z136, z137, z138, z139, z140, z141, z142, z143], []⟩ w0 := by
 conv => arg 2; whnf
 have heq : (true == true) = true := rfl
 refine region_tell (w0.heap.size) (G := fun _ => True) (ts := [
   .is (Value.agg #[.int .i64 (pW), .int .i64 (pwin), .int .i64 (pfuel), .int .i64 (pr0), .int .i64 (pr1), .int .i64 (pr2), .int .i64 (pr3), .slice pmA mln pmC, .slice plA plN plC, .slice pA pN pC]),
   .is (Value.agg #[.int .i64 (r0), .int .i64 (r1), .int .i64 (r2), .int .i64 (r3), .slice mA mN mC, .slice kA kN kC, .int .i64 (cpc), .slice bA bN bC, .slice qA qN qC, .int .i64 (fin)]),
   .draws (.int .i64 g),
   .is (Value.bool true),
   .is (Value.pointer (some ⟨g10, 9, none⟩)),
   .is (Value.int .i64 (fin)),
   .is (Value.bool false),
   .is (Value.bool false),
   .is (Value.pointer (some ⟨g10, 0, none⟩)),
   .is (Value.pointer (some ⟨g10, 6, none⟩)),
   .is (Value.int .i64 (cpc)),
   .is (Value.bool false),
   .is (Value.bool false),
   .is (Value.bool false),
   .is (Value.pointer (some ⟨g10, 7, none⟩)),
   .is (Value.slice bA bN bC),
   .is (Value.int .i64 ((bN : Int))),
   .is (Value.pointer (some ⟨g7, 1, none⟩)),
   .is (Value.int .i64 (pwin)),
   .is (Value.bool true),
   .is (Value.bool true),
   .is (Value.bool true),
   .is (Value.bool true),
   .draws (.bool true),
   .is (Value.bool true),
   .is (Value.bool true)])
  (fin := []) (cs := []) (by kernel_rfl) rfl (by kernel_rfl) (by kernel_rfl)
  ⟨trivial, trivial, trivial, trivial, trivial, trivial, trivial, trivial, trivial, trivial, trivial, trivial, trivial, trivial, trivial, trivial, trivial, trivial, trivial, trivial, trivial, trivial, trivial, trivial, trivial, trivial, trivial⟩ (fun _ _ _ _ => trivial) (by simp) (by simp) trivial
  ⟨?_, ?_, ?_, ?_, ?_, ?_, ?_, ?_, ?_, ?_, ?_, ?_, ?_, ?_, ?_, ?_, ?_, ?_, ?_, ?_, ?_, ?_, ?_, ?_, ?_, ?_, trivial⟩ ?_
 ·intro vals w1 hB _ hd
  clear hd
  refine one_value (v := Value.agg #[.int .i64 (pW), .int .i64 (pwin), .int .i64 (pfuel), .int .i64 (pr0), .int .i64 (pr1), .int .i64 (pr2), .int .i64 (pr3), .slice pmA mln pmC, .slice plA plN plC, .slice pA pN pC]) rfl ?_ (post_is rfl)
  exact exec_load_row rfl (b := g7) (off := 0) (by kernel_rfl) [.int .i64 (pW), .int .i64 (pwin), .int .i64 (pfuel), .int .i64 (pr0), .int .i64 (pr1), .int .i64 (pr2), .int .i64 (pr3), .slice pmA mln pmC, .slice plA plN plC, .slice pA pN pC] (XPK.out w1 hB) Try.underlying33 rfl (by kernel_rfl)
 ·intro vals w1 hB _ hd
  clear hd
  refine one_value (v := Value.agg #[.int .i64 (r0), .int .i64 (r1), .int .i64 (r2), .int .i64 (r3), .slice mA mN mC, .slice kA kN kC, .int .i64 (cpc), .slice bA bN bC, .slice qA qN qC, .int .i64 (fin)]) rfl ?_ (post_is rfl)
  exact exec_load_row rfl (b := g10) (off := 0) (by kernel_rfl) [.int .i64 (r0), .int .i64 (r1), .int .i64 (r2), .int .i64 (r3), .slice mA mN mC, .slice kA kN kC, .int .i64 (cpc), .slice bA bN bC, .slice qA qN qC, .int .i64 (fin)] (XCK.out w1 hB) Try.underlying41 rfl (by kernel_rfl)
 ·intro vals w1 hB _ hd
  clear hd
  refine one_calls (f := 42) (args := #[.agg #[.int .i64 (pW), .int .i64 (pwin), .int .i64 (pfuel), .int .i64 (pr0), .int .i64 (pr1), .int .i64 (pr2), .int .i64 (pr3), .slice pmA mln pmC, .slice plA plN plC, .slice pA pN pC], .agg #[.int .i64 (r0), .int .i64 (r1), .int .i64 (r2), .int .i64 (r3), .slice mA mN mC, .slice kA kN kC, .int .i64 (cpc), .slice bA bN bC, .slice qA qN qC, .int .i64 (fin)]]) (w1 := w1) rfl (by kernel_rfl) ?_
  refine (HGK.out w1 hB).mono ?_
  rintro e1 w3 ⟨rfl, hb⟩
  exact ⟨_, rfl, post_draws rfl hb⟩
 ·intro vals w1 hB _ hd
  clear hd
  refine one_value (v := Value.bool true) rfl ?_ (post_is rfl)
  exact Eq.trans (b := .ok (.value (.bool ((g) == (0)))) w1) (by kernel_rfl) (by rw [hn0])
 ·intro vals w1 hB _ hd
  clear hd
  refine one_value (v := Value.pointer (some ⟨g10, 9, none⟩)) rfl ?_ (post_is rfl)
  kernel_rfl
 ·intro vals w1 hB _ hd
  clear hd
  refine one_value (v := Value.int .i64 (fin)) rfl ?_ (post_is rfl)
  exact exec_cell rfl (by kernel_rfl) ((XCK.out w1 hB) 9 _ rfl) Try.underlying3 rfl
 ·intro vals w1 hB _ hd
  clear hd
  refine one_value (v := Value.bool false) rfl ?_ (post_is rfl)
  exact Eq.trans (b := .ok (.value (.bool ((fin) != (0)))) w1) (by kernel_rfl) (by rw [hqf])
 ·intro vals w1 hB _ hd
  clear hd
  refine one_value (v := Value.bool false) rfl ?_ (post_is rfl)
  kernel_rfl
 ·intro vals w1 hB _ hd
  clear hd
  refine one_value_g (v := Value.pointer (some ⟨g10, 0, none⟩)) (by kernel_rfl) ?_ (post_is rfl)
  kernel_rfl
 ·intro vals w1 hB _ hd
  clear hd
  refine one_value_g (v := Value.pointer (some ⟨g10, 6, none⟩)) (by kernel_rfl) ?_ (post_is rfl)
  kernel_rfl
 ·intro vals w1 hB _ hd
  clear hd
  refine one_value_g (v := Value.int .i64 (cpc)) (by kernel_rfl) ?_ (post_is rfl)
  exact exec_cell rfl (by kernel_rfl) ((XCK.out w1 hB) 6 _ rfl) Try.underlying3 rfl
 ·intro vals w1 hB _ hd
  clear hd
  refine one_value_g (v := Value.bool false) (by kernel_rfl) ?_ (post_is rfl)
  exact Eq.trans (b := .ok (.value (.bool ((cpc) == (-1)))) w1) (by kernel_rfl) (by rw [hqp])
 ·intro vals w1 hB _ hd
  clear hd
  refine one_value (v := Value.bool false) rfl ?_ (post_is rfl)
  kernel_rfl
 ·intro vals w1 hB _ hd
  clear hd
  refine one_value (v := Value.bool false) rfl ?_ (post_is rfl)
  kernel_rfl
 ·intro vals w1 hB _ hd
  clear hd
  refine one_value_g (v := Value.pointer (some ⟨g10, 7, none⟩)) (by kernel_rfl) ?_ (post_is rfl)
  kernel_rfl
 ·intro vals w1 hB _ hd
  clear hd
  refine one_value_g (v := Value.slice bA bN bC) (by kernel_rfl) ?_ (post_is rfl)
  exact exec_cell rfl (by kernel_rfl) ((XCK.out w1 hB) 7 _ rfl) Try.underlying39 rfl
 ·intro vals w1 hB _ hd
  clear hd
  refine one_value_g (v := Value.int .i64 ((bN : Int))) (by kernel_rfl) ?_ (post_is rfl)
  kernel_rfl
 ·intro vals w1 hB _ hd
  clear hd
  refine one_value_g (v := Value.pointer (some ⟨g7, 1, none⟩)) (by kernel_rfl) ?_ (post_is rfl)
  kernel_rfl
 ·intro vals w1 hB _ hd
  clear hd
  refine one_value_g (v := Value.int .i64 (pwin)) (by kernel_rfl) ?_ (post_is rfl)
  exact exec_cell rfl (by kernel_rfl) ((XPK.out w1 hB) 1 _ rfl) Try.underlying3 rfl
 ·intro vals w1 hB _ hd
  clear hd
  refine one_value_g (v := Value.bool true) (by kernel_rfl) ?_ (post_is rfl)
  exact Eq.trans (b := .ok (.value (.bool (((bN : Int)) == (pwin)))) w1) (by kernel_rfl) (by rw [hqw])
 ·intro vals w1 hB _ hd
  clear hd
  refine one_value (v := Value.bool true) rfl ?_ (post_is rfl)
  kernel_rfl
 ·intro vals w1 hB _ hd
  clear hd
  refine one_value (v := Value.bool true) rfl ?_ (post_is rfl)
  exact Eq.trans (b := .ok (.value (.bool ((true) == (true)))) w1) (by kernel_rfl) (by rw [heq])
 ·intro vals w1 hB _ hd
  clear hd
  refine one_value (v := Value.bool true) rfl ?_ (post_is rfl)
  kernel_rfl
 ·intro vals w1 hB _ hd
  clear hd
  refine one_calls_g (f := 43) (args := #[]) (w1 := w1) (by kernel_rfl) (by kernel_rfl) ?_
  refine (awake14 w1).mono ?_
  rintro e1 w3 ⟨rfl, hb⟩
  exact ⟨_, rfl, post_draws rfl hb⟩
 ·intro vals w1 hB _ hd
  clear hd
  refine one_value (v := Value.bool true) rfl ?_ (post_is rfl)
  kernel_rfl
 ·intro vals w1 hB _ hd
  clear hd
  refine one_value (v := Value.bool true) rfl ?_ (post_is rfl)
  kernel_rfl
 intro vals w15 b15 _ hr
 clear hr
 simp only [fillT, Tell.is, Tell.draws, Act.put, List.setIfInBounds_toArray, List.set_cons_zero, List.set_cons_succ]
 exact hQ _ _ _ _ _ _ _ _ _ _ _ _ _ _ _ _ _ _ _ _ _ _ _ _ _ w15 b15
set_option maxRecDepth 100000 in
set_option maxHeartbeats 2000000 in
theorem fo_end4 {z0 z1 z2 z3 z4 z5 z6 z8 z9 z11 z12 z13 z14 z15 z16 z17 z18 z19 z20 z21 z22 z23 z24 z25 z26 z27 z28 z29 z30 z31 z32 z33 z34 z35 z36 z37 z38 z39 z40 z41 z42 z43 z44 z45 z46 z47 z48 z49 z50 z51 z52 z53 z54 z55 z56 z57 z58 z59 z60 z61 z62 z63 z64 z65 z66 z67 z68 z69 z70 z71 z72 z73 z74 z75 z76 z77 z78 z79 z80 z81 z82 z83 z84 z85 z86 z87 z88 z89 z90 z91 z92 z93 z94 z95 z96 z97 z98 z99 z100 z101 z102 z103 z104 z105 z106 z107 z108 z109 z110 z111 z112 z113 z114 z115 z116 z117 z118 z119 z120 z121 z122 z123 z124 z125 z126 z127 z128 z129 z130 z131 z132 z133 z134 z135 z136 z137 z138 z139 z140 z141 z142 z143 : Value} (w0 : World) (g7 g10 S1 : Nat) (pW pwin pfuel pr0 pr1 pr2 pr3 : Int) (pmA plA pA : Option Addr) (mln pmC plN plC pN pC : Nat) (r0 r1 r2 r3 cpc fin : Int) (mA kA bA qA : Option Addr) (mN mC kN kC bN bC qN qC : Nat) (g : Int) (XPK : Kept (∀ w1, Below w0.heap.size w0 w1 → CellsAt w1 g7 0 [.int .i64 (pW), .int .i64 (pwin), .int .i64 (pfuel), .int .i64 (pr0), .int .i64 (pr1), .int .i64 (pr2), .int .i64 (pr3), .slice pmA mln pmC, .slice plA plN plC, .slice pA pN pC])) (XCK : Kept (∀ w1, Below w0.heap.size w0 w1 → CellsAt w1 g10 0 [.int .i64 (r0), .int .i64 (r1), .int .i64 (r2), .int .i64 (r3), .slice mA mN mC, .slice kA kN kC, .int .i64 (cpc), .slice bA bN bC, .slice qA qN qC, .int .i64 (fin)]))
  (HGK : Kept (∀ w1, Below w0.heap.size w0 w1 → Calls Try.prog 42 #[.agg #[.int .i64 (pW), .int .i64 (pwin), .int .i64 (pfuel), .int .i64 (pr0), .int .i64 (pr1), .int .i64 (pr2), .int .i64 (pr3), .slice pmA mln pmC, .slice plA plN plC, .slice pA pN pC], .agg #[.int .i64 (r0), .int .i64 (r1), .int .i64 (r2), .int .i64 (r3), .slice mA mN mC, .slice kA kN kC, .int .i64 (cpc), .slice bA bN bC, .slice qA qN qC, .int .i64 (fin)]] w1 fun en w' => en = .returned (.int .i64 g) ∧ Below w1.heap.size w1 w')) (hn0 : (g == 0) = false) (hqf : (fin != 0) = false) (hqp : (cpc == -1) = false) (hqw : ((bN : Int) == pwin) = false) (Q : Exit → Act → World → Prop)
  (hQ : ∀ (u119 u120 u121 u122 u123 u124 u125 u126 u127 u128 u129 u130 u131 u132 u133 u134 u135 u136 u137 u138 u139 u140 u141 u142 u143 : Value) (w' : World), Below w0.heap.size w0 w' → Q .normal ⟨#[z0, z1, z2, z3, z4, z5, .bool true, .pointer (some ⟨g7, 0, none⟩), z8, z9, .pointer (some ⟨g10, 0, none⟩), z11, z12, z13, z14, z15, z16, z17, z18, z19, z20, z21, z22, z23, z24, z25, z26, z27, z28, z29, z30, z31, z32, z33, z34, z35, z36, z37, z38, z39, z40, z41, z42, z43, z44, z45, z46, z47, z48, z49, z50, z51, z52, z53, z54, z55, z56, z57, z58, z59, z60, z61, z62, z63, z64, z65, z66, z67, z68, z69, z70, z71, z72, z73, z74, z75, z76, z77, z78, z79, z80, z81, z82, z83, z84, z85, z86, z87, z88, z89, z90, z91, z92, z93, z94, z95, z96, z97, z98, z99, z100, z101, z102, z103, z104, z105, z106, z107, z108, z109, z110, z111, z112, z113, z114, z115, z116, z117, z118, u119, u120, u121, u122, u123, u124, u125, u126, u127, u128, u129, u130, u131, u132, u133, u134, u135, u136, u137, u138, u139, u140, u141, u142, u143], []⟩ w') :
  Code.wp Try.prog (regFo 15) Q ⟨#[z0, z1, z2, z3, z4, z5, z6, .pointer (some ⟨g7, 0, none⟩), z8, z9, .pointer (some ⟨g10, 0, none⟩), z11, z12, z13, z14, z15, z16, z17, z18, z19, z20, z21, z22, z23, z24, z25, z26, z27, z28, z29, z30, z31, z32, z33, z34, z35, z36, z37, z38, z39, z40, z41, z42, z43, z44, z45, z46, z47, z48, z49, z50, z51, z52, z53, z54, z55, z56, z57, z58, z59, z60, z61, z62, z63, z64, z65, z66, z67, z68, z69, z70, z71, z72, z73, z74, z75, z76, z77, z78, z79, z80, z81, z82, z83, z84, z85, z86, z87, z88, z89, z90, z91, z92, z93, z94, z95, z96, z97, z98, z99, z100, z101, z102, z103, z104, z105, z106, z107, z108, z109, z110, z111, z112, z113, z114, z115, z116, z117, z118, z119, z120, z121, z122, z123, z124, z125, z126, z127, z128, z129, z130, z131, z132, z133, z134, z135, z136, z137, z138, z139, z140, z141, z142, z143], []⟩ w0 := by
 conv => arg 2; whnf
 have heq : (false == false) = true := rfl
 refine region_tell (w0.heap.size) (G := fun _ => True) (ts := [
   .is (Value.agg #[.int .i64 (pW), .int .i64 (pwin), .int .i64 (pfuel), .int .i64 (pr0), .int .i64 (pr1), .int .i64 (pr2), .int .i64 (pr3), .slice pmA mln pmC, .slice plA plN plC, .slice pA pN pC]),
   .is (Value.agg #[.int .i64 (r0), .int .i64 (r1), .int .i64 (r2), .int .i64 (r3), .slice mA mN mC, .slice kA kN kC, .int .i64 (cpc), .slice bA bN bC, .slice qA qN qC, .int .i64 (fin)]),
   .draws (.int .i64 g),
   .is (Value.bool false),
   .is (Value.pointer (some ⟨g10, 9, none⟩)),
   .is (Value.int .i64 (fin)),
   .is (Value.bool false),
   .is (Value.bool false),
   .is (Value.pointer (some ⟨g10, 0, none⟩)),
   .is (Value.pointer (some ⟨g10, 6, none⟩)),
   .is (Value.int .i64 (cpc)),
   .is (Value.bool false),
   .is (Value.bool false),
   .is (Value.bool false),
   .is (Value.pointer (some ⟨g10, 7, none⟩)),
   .is (Value.slice bA bN bC),
   .is (Value.int .i64 ((bN : Int))),
   .is (Value.pointer (some ⟨g7, 1, none⟩)),
   .is (Value.int .i64 (pwin)),
   .is (Value.bool false),
   .is (Value.bool false),
   .is (Value.bool true),
   .is (Value.bool true),
   .draws (.bool true),
   .is (Value.bool true),
   .is (Value.bool true)])
  (fin := []) (cs := []) (by kernel_rfl) rfl (by kernel_rfl) (by kernel_rfl)
  ⟨trivial, trivial, trivial, trivial, trivial, trivial, trivial, trivial, trivial, trivial, trivial, trivial, trivial, trivial, trivial, trivial, trivial, trivial, trivial, trivial, trivial, trivial, trivial, trivial, trivial, trivial, trivial⟩ (fun _ _ _ _ => trivial) (by simp) (by simp) trivial
  ⟨?_, ?_, ?_, ?_, ?_, ?_, ?_, ?_, ?_, ?_, ?_, ?_, ?_, ?_, ?_, ?_, ?_, ?_, ?_, ?_, ?_, ?_, ?_, ?_, ?_, ?_, trivial⟩ ?_
 ·intro vals w1 hB _ hd
  clear hd
  refine one_value (v := Value.agg #[.int .i64 (pW), .int .i64 (pwin), .int .i64 (pfuel), .int .i64 (pr0), .int .i64 (pr1), .int .i64 (pr2), .int .i64 (pr3), .slice pmA mln pmC, .slice plA plN plC, .slice pA pN pC]) rfl ?_ (post_is rfl)
  exact exec_load_row rfl (b := g7) (off := 0) (by kernel_rfl) [.int .i64 (pW), .int .i64 (pwin), .int .i64 (pfuel), .int .i64 (pr0), .int .i64 (pr1), .int .i64 (pr2), .int .i64 (pr3), .slice pmA mln pmC, .slice plA plN plC, .slice pA pN pC] (XPK.out w1 hB) Try.underlying33 rfl (by kernel_rfl)
 ·intro vals w1 hB _ hd
  clear hd
  refine one_value (v := Value.agg #[.int .i64 (r0), .int .i64 (r1), .int .i64 (r2), .int .i64 (r3), .slice mA mN mC, .slice kA kN kC, .int .i64 (cpc), .slice bA bN bC, .slice qA qN qC, .int .i64 (fin)]) rfl ?_ (post_is rfl)
  exact exec_load_row rfl (b := g10) (off := 0) (by kernel_rfl) [.int .i64 (r0), .int .i64 (r1), .int .i64 (r2), .int .i64 (r3), .slice mA mN mC, .slice kA kN kC, .int .i64 (cpc), .slice bA bN bC, .slice qA qN qC, .int .i64 (fin)] (XCK.out w1 hB) Try.underlying41 rfl (by kernel_rfl)
 ·intro vals w1 hB _ hd
  clear hd
  refine one_calls (f := 42) (args := #[.agg #[.int .i64 (pW), .int .i64 (pwin), .int .i64 (pfuel), .int .i64 (pr0), .int .i64 (pr1), .int .i64 (pr2), .int .i64 (pr3), .slice pmA mln pmC, .slice plA plN plC, .slice pA pN pC], .agg #[.int .i64 (r0), .int .i64 (r1), .int .i64 (r2), .int .i64 (r3), .slice mA mN mC, .slice kA kN kC, .int .i64 (cpc), .slice bA bN bC, .slice qA qN qC, .int .i64 (fin)]]) (w1 := w1) rfl (by kernel_rfl) ?_
  refine (HGK.out w1 hB).mono ?_
  rintro e1 w3 ⟨rfl, hb⟩
  exact ⟨_, rfl, post_draws rfl hb⟩
 ·intro vals w1 hB _ hd
  clear hd
  refine one_value (v := Value.bool false) rfl ?_ (post_is rfl)
  exact Eq.trans (b := .ok (.value (.bool ((g) == (0)))) w1) (by kernel_rfl) (by rw [hn0])
 ·intro vals w1 hB _ hd
  clear hd
  refine one_value (v := Value.pointer (some ⟨g10, 9, none⟩)) rfl ?_ (post_is rfl)
  kernel_rfl
 ·intro vals w1 hB _ hd
  clear hd
  refine one_value (v := Value.int .i64 (fin)) rfl ?_ (post_is rfl)
  exact exec_cell rfl (by kernel_rfl) ((XCK.out w1 hB) 9 _ rfl) Try.underlying3 rfl
 ·intro vals w1 hB _ hd
  clear hd
  refine one_value (v := Value.bool false) rfl ?_ (post_is rfl)
  exact Eq.trans (b := .ok (.value (.bool ((fin) != (0)))) w1) (by kernel_rfl) (by rw [hqf])
 ·intro vals w1 hB _ hd
  clear hd
  refine one_value (v := Value.bool false) rfl ?_ (post_is rfl)
  kernel_rfl
 ·intro vals w1 hB _ hd
  clear hd
  refine one_value_g (v := Value.pointer (some ⟨g10, 0, none⟩)) (by kernel_rfl) ?_ (post_is rfl)
  kernel_rfl
 ·intro vals w1 hB _ hd
  clear hd
  refine one_value_g (v := Value.pointer (some ⟨g10, 6, none⟩)) (by kernel_rfl) ?_ (post_is rfl)
  kernel_rfl
 ·intro vals w1 hB _ hd
  clear hd
  refine one_value_g (v := Value.int .i64 (cpc)) (by kernel_rfl) ?_ (post_is rfl)
  exact exec_cell rfl (by kernel_rfl) ((XCK.out w1 hB) 6 _ rfl) Try.underlying3 rfl
 ·intro vals w1 hB _ hd
  clear hd
  refine one_value_g (v := Value.bool false) (by kernel_rfl) ?_ (post_is rfl)
  exact Eq.trans (b := .ok (.value (.bool ((cpc) == (-1)))) w1) (by kernel_rfl) (by rw [hqp])
 ·intro vals w1 hB _ hd
  clear hd
  refine one_value (v := Value.bool false) rfl ?_ (post_is rfl)
  kernel_rfl
 ·intro vals w1 hB _ hd
  clear hd
  refine one_value (v := Value.bool false) rfl ?_ (post_is rfl)
  kernel_rfl
 ·intro vals w1 hB _ hd
  clear hd
  refine one_value_g (v := Value.pointer (some ⟨g10, 7, none⟩)) (by kernel_rfl) ?_ (post_is rfl)
  kernel_rfl
 ·intro vals w1 hB _ hd
  clear hd
  refine one_value_g (v := Value.slice bA bN bC) (by kernel_rfl) ?_ (post_is rfl)
  exact exec_cell rfl (by kernel_rfl) ((XCK.out w1 hB) 7 _ rfl) Try.underlying39 rfl
 ·intro vals w1 hB _ hd
  clear hd
  refine one_value_g (v := Value.int .i64 ((bN : Int))) (by kernel_rfl) ?_ (post_is rfl)
  kernel_rfl
 ·intro vals w1 hB _ hd
  clear hd
  refine one_value_g (v := Value.pointer (some ⟨g7, 1, none⟩)) (by kernel_rfl) ?_ (post_is rfl)
  kernel_rfl
 ·intro vals w1 hB _ hd
  clear hd
  refine one_value_g (v := Value.int .i64 (pwin)) (by kernel_rfl) ?_ (post_is rfl)
  exact exec_cell rfl (by kernel_rfl) ((XPK.out w1 hB) 1 _ rfl) Try.underlying3 rfl
 ·intro vals w1 hB _ hd
  clear hd
  refine one_value_g (v := Value.bool false) (by kernel_rfl) ?_ (post_is rfl)
  exact Eq.trans (b := .ok (.value (.bool (((bN : Int)) == (pwin)))) w1) (by kernel_rfl) (by rw [hqw])
 ·intro vals w1 hB _ hd
  clear hd
  refine one_value (v := Value.bool false) rfl ?_ (post_is rfl)
  kernel_rfl
 ·intro vals w1 hB _ hd
  clear hd
  refine one_value (v := Value.bool true) rfl ?_ (post_is rfl)
  exact Eq.trans (b := .ok (.value (.bool ((false) == (false)))) w1) (by kernel_rfl) (by rw [heq])
 ·intro vals w1 hB _ hd
  clear hd
  refine one_value (v := Value.bool true) rfl ?_ (post_is rfl)
  kernel_rfl
 ·intro vals w1 hB _ hd
  clear hd
  refine one_calls_g (f := 43) (args := #[]) (w1 := w1) (by kernel_rfl) (by kernel_rfl) ?_
  refine (awake14 w1).mono ?_
  rintro e1 w3 ⟨rfl, hb⟩
  exact ⟨_, rfl, post_draws rfl hb⟩
 ·intro vals w1 hB _ hd
  clear hd
  refine one_value (v := Value.bool true) rfl ?_ (post_is rfl)
  kernel_rfl
 ·intro vals w1 hB _ hd
  clear hd
  refine one_value (v := Value.bool true) rfl ?_ (post_is rfl)
  kernel_rfl
 intro vals w15 b15 _ hr
 clear hr
 simp only [fillT, Tell.is, Tell.draws, Act.put, List.setIfInBounds_toArray, List.set_cons_zero, List.set_cons_succ]
 exact hQ _ _ _ _ _ _ _ _ _ _ _ _ _ _ _ _ _ _ _ _ _ _ _ _ _ w15 b15
end Go.Proofs.Ytchldbkjapnlcaa
end
