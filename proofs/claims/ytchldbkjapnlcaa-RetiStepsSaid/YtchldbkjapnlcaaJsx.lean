/- The document's own answer, layer 8: a step of the program, one by one. Whether two states are the same, by the document's own. -/
import Derived.Test.YtchldbkjapnlcaaJRet
import Derived.Test.YtchldbkjapnlcaaJk
import Derived.Test.YtchldbkjapnlcaaJSett
import Derived.BigRegion
import Derived.Deep.RegionWith
import Derived.Test.YtchldbkjapnlcaaJq
set_option linter.unusedVariables false
set_option linter.unusedSimpArgs false
namespace Go.Proofs.Ytchldbkjapnlcaa
open Go.RowKit
section
noncomputable def regStp (id : Nat) : Code := (Try.f39.body.bind (findRegion id)).getD .skip
set_option maxRecDepth 100000 in
set_option maxHeartbeats 8000000 in
theorem seq_clone {z0 z1 z2 z4 z5 z6 z7 z8 z9 z11 z12 z13 z14 z15 z16 z17 z18 z19 z20 z21 z22 z23 z24 z25 z26 z27 z28 z29 z30 z31 z32 z33 z34 z35 z36 z37 z38 z39 z40 z41 z42 z43 z44 z45 z46 z47 z48 z49 z50 z51 z52 z53 z54 z55 z56 z57 z58 z59 z60 z61 z62 z63 z64 z65 z66 z67 z68 z69 z70 z71 z72 z73 z74 z75 z76 z77 z78 z79 z80 z81 z82 z83 z84 z85 z86 z87 z88 z89 z90 z91 z92 z93 z94 z95 z96 z97 z98 z99 z100 z101 z102 z103 z104 z105 z106 z107 z108 z109 z110 z111 z112 z113 z114 z115 z116 z117 z118 z119 z120 z121 z122 z123 z124 z125 z126 z127 z128 z129 z130 z131 z132 z133 z134 z135 z136 z137 z138 z139 z140 z141 z142 z143 z144 z145 z146 z147 z148 z149 z150 z151 z152 z153 z154 z155 z156 z157 z158 z159 z160 z161 z162 z163 z164 z165 z166 z167 z168 z169 z170 z171 z172 z173 z174 z175 z176 z177 z178 z179 z180 z181 z182 z183 z184 z185 z186 z187 z188 z189 z190 z191 z192 z193 z194 z195 z196 z197 z198 z199 z200 z201 z202 z203 z204 z205 z206 z207 z208 z209 z210 z211 z212 z213 z214 z215 : Value} (w0 : World) (S3 S8 N0 : Nat) (st : Stt) (mem stack : List Int) (X3 : Kept (w0.heap[S3]? = some (.cells st.cs.toArray 36 (0, 0)))) (X8 : Kept (w0.heap[S8]? = some (.cells st.cs.toArray 36 (0, 0))))
  (HM : Kept (RdI w0 st.mem.A mem)) (HMN : Kept (st.mem.n = mem.length)) (HMO : Kept (0 < mem.length → ∀ ad, st.mem.A = some ad → ad.block ≠ S8))
  (HS : Kept (RdI w0 st.stack.A stack)) (HSN : Kept (st.stack.n = stack.length)) (HSO : Kept (0 < stack.length → ∀ ad, st.stack.A = some ad → ad.block ≠ S8))
  (hml : mem.length ≤ 1000) (hsl : stack.length ≤ 1000) (hN : w0.heap.size = N0) (h38 : S3 < S8) (h8 : S8 < N0) (Q : Exit → Act → World → Prop)
  (hQ : ∀ (u31 u32 u33 u34 u35 u36 u37 u38 u39 u40 : Value) (w' : World) (sM sS : Sl), OwnI w' N0 (.slice sM.A sM.n sM.c) mem → OwnI w' N0 (.slice sS.A sS.n sS.c) stack → (∀ g, (Value.slice sM.A sM.n sM.c).ownBlock = some g → (Value.slice sS.A sS.n sS.c).ownBlock ≠ some g) →
   w'.heap[S8]? = some (.cells (Stt.cs { st with mem := sM, stack := sS }).toArray 36 (0, 0)) → w0.grownBy w' (some S8) → Q .normal ⟨#[z0, z1, z2, .pointer (some ⟨S3, 0, none⟩), z4, z5, z6, z7, z8, z9, .pointer (some ⟨S8, 0, none⟩), z11, z12, z13, z14, z15, z16, z17, z18, z19, z20, z21, z22, z23, z24, z25, z26, z27, z28, z29, z30, u31, u32, u33, u34, u35, u36, u37, u38, u39, u40, z41, z42, z43, z44, z45, z46, z47, z48, z49, z50, z51, z52, z53, z54, z55, z56, z57, z58, z59, z60, z61, z62, z63, z64, z65, z66, z67, z68, z69, z70, z71, z72, z73, z74, z75, z76, z77, z78, z79, z80, z81, z82, z83, z84, z85, z86, z87, z88, z89, z90, z91, z92, z93, z94, z95, z96, z97, z98, z99, z100, z101, z102, z103, z104, z105, z106, z107, z108, z109, z110, z111, z112, z113, z114, z115, z116, z117, z118, z119, z120, z121, z122, z123, z124, z125, z126, z127, z128, z129, z130, z131, z132, z133, z134, z135, z136, z137, z138, z139, z140, z141, z142, z143, z144, z145, z146, z147, z148, z149, z150, z151, z152, z153, z154, z155, z156, z157, z158, z159, z160, z161, z162, z163, z164, z165, z166, z167, z168, z169, z170, z171, z172, z173, z174, z175, z176, z177, z178, z179, z180, z181, z182, z183, z184, z185, z186, z187, z188, z189, z190, z191, z192, z193, z194, z195, z196, z197, z198, z199, z200, z201, z202, z203, z204, z205, z206, z207, z208, z209, z210, z211, z212, z213, z214, z215], []⟩ w') :
  Code.wp Try.prog (regStp 4) Q ⟨#[z0, z1, z2, .pointer (some ⟨S3, 0, none⟩), z4, z5, z6, z7, z8, z9, .pointer (some ⟨S8, 0, none⟩), z11, z12, z13, z14, z15, z16, z17, z18, z19, z20, z21, z22, z23, z24, z25, z26, z27, z28, z29, z30, z31, z32, z33, z34, z35, z36, z37, z38, z39, z40, z41, z42, z43, z44, z45, z46, z47, z48, z49, z50, z51, z52, z53, z54, z55, z56, z57, z58, z59, z60, z61, z62, z63, z64, z65, z66, z67, z68, z69, z70, z71, z72, z73, z74, z75, z76, z77, z78, z79, z80, z81, z82, z83, z84, z85, z86, z87, z88, z89, z90, z91, z92, z93, z94, z95, z96, z97, z98, z99, z100, z101, z102, z103, z104, z105, z106, z107, z108, z109, z110, z111, z112, z113, z114, z115, z116, z117, z118, z119, z120, z121, z122, z123, z124, z125, z126, z127, z128, z129, z130, z131, z132, z133, z134, z135, z136, z137, z138, z139, z140, z141, z142, z143, z144, z145, z146, z147, z148, z149, z150, z151, z152, z153, z154, z155, z156, z157, z158, z159, z160, z161, z162, z163, z164, z165, z166, z167, z168, z169, z170, z171, z172, z173, z174, z175, z176, z177, z178, z179, z180, z181, z182, z183, z184, z185, z186, z187, z188, z189, z190, z191, z192, z193, z194, z195, z196, z197, z198, z199, z200, z201, z202, z203, z204, z205, z206, z207, z208, z209, z210, z211, z212, z213, z214, z215], []⟩ w0 := by
 have HMNL : st.mem.n ≤ 1000 := by have := HMN.out; omega
 have HSNL : st.stack.n ≤ 1000 := by have := HSN.out; omega
 have HX3 := q27 X3.out h38
 conv => arg 2; whnf
 refine q19 (fun done vals w => RZ w0 S8 N0 st mem stack done vals w) (S8) (G := fun _ => True) (ts := [
   .turns (fun v _ => True) (fun _ _ => True),
   .is (Value.pointer (some ⟨S3, 4, none⟩)),
   .is (Value.slice st.mem.A st.mem.n st.mem.c),
   .turns (fun v _ => True) (fun _ _ => True),
   .turns (fun v _ => True) (fun _ _ => True),
   .is (Value.pointer (some ⟨S3, 5, none⟩)),
   .is (Value.slice st.stack.A st.stack.n st.stack.c),
   .turns (fun v _ => True) (fun _ _ => True),
   .is (Value.pointer (some ⟨S8, 4, none⟩)),
   .sets (fun _ _ => True),
   .is (Value.pointer (some ⟨S8, 5, none⟩)),
   .sets (fun _ _ => True)])
  (fin := []) (cs := [(0, 3), (0, 4), (0, 7), (0, 9), (0, 11), (3, 0), (3, 4), (3, 7), (3, 9), (3, 11), (4, 0), (4, 3), (4, 7), (4, 9), (4, 11), (7, 0), (7, 3), (7, 4), (7, 9), (7, 11), (9, 0), (9, 3), (9, 4), (9, 7), (9, 11), (11, 0), (11, 3), (11, 4), (11, 7), (11, 9)]) ?z0 ?zg (by kernel_rfl) rfl (by kernel_rfl) (by kernel_rfl)
  ⟨q07 _, trivial, trivial, q07 _, q07 _, trivial, trivial, q07 _, trivial, (fun _ _ _ _ _ => trivial), trivial, (fun _ _ _ _ _ => trivial), trivial⟩ (fun _ _ _ _ => trivial) ?cs (by omega) trivial
  ⟨?_, ?_, ?_, ?_, ?_, ?_, ?_, ?_, ?_, ?_, ?_, ?_, trivial⟩ ?_
 case z0 =>
  show _
  exact RZ.start X8.out (by omega)
 case zg =>
  intro i done vals w1 w2 v hti hni hZ hb
  have hz := hZ
  ·skip
   have hz : RZ w0 S8 N0 st mem stack done vals w1 := hz
   have h0 : ¬ 0 = i := by rintro rfl; cases hti
   have h3 : ¬ 3 = i := by rintro rfl; cases hti
   have h4 : ¬ 4 = i := by rintro rfl; cases hti
   have h7 : ¬ 7 = i := by rintro rfl; cases hti
   have h9 : ¬ 9 = i := by rintro rfl; cases hti
   have h11 : ¬ 11 = i := by rintro rfl; cases hti
   exact hz.other h0 h3 h4 h7 h9 h11 hb
 case cs =>
  intro p hp v w1 w2 hG hR hE
  simp only [List.mem_cons, List.not_mem_nil, or_false] at hp
  rcases hp with rfl | rfl | rfl | rfl | rfl | rfl | rfl | rfl | rfl | rfl | rfl | rfl | rfl | rfl | rfl | rfl | rfl | rfl | rfl | rfl | rfl | rfl | rfl | rfl | rfl | rfl | rfl | rfl | rfl | rfl
  ·exact hR
  ·exact hR
  ·exact hR
  ·exact hR
  ·exact hR
  ·exact hR
  ·exact hR
  ·exact hR
  ·exact hR
  ·exact hR
  ·exact hR
  ·exact hR
  ·exact hR
  ·exact hR
  ·exact hR
  ·exact hR
  ·exact hR
  ·exact hR
  ·exact hR
  ·exact hR
  ·exact hR
  ·exact hR
  ·exact hR
  ·exact hR
  ·exact hR
  ·exact hR
  ·exact hR
  ·exact hR
  ·exact hR
  ·exact hR
 ·intro done vals w1 hB _ hZ hni hcl hdn _
  have hz : RZ w0 S8 N0 st mem stack done vals w1 := hZ
  have hk := hcl 3 _ rfl (by kernel_rfl)
  refine q1D (v := .slice (some ⟨w1.heap.size, 0, none⟩) 0 0) (w' := w1.alloc (.cells #[] 3)) rfl (by kernel_rfl) ⟨q16 rfl trivial (hB.trans ((q00 _ _).mono (by have := hB.size; omega))) trivial (by simp) trivial, fun _ => ?_⟩
  exact hz.new0 hni hk
 ·intro done vals w1 hB _ hZ hni hcl hdn _
  refine q02 rfl ?_ ⟨q04 rfl, noturn rfl⟩
  kernel_rfl
 ·intro done vals w1 hB _ hZ hni hcl hdn _
  refine q02 rfl ?_ ⟨q04 rfl, noturn rfl⟩
  exact q0A rfl (by kernel_rfl) ((HX3.out w1 hB) 4 _ rfl) Try.underlying22 rfl
 ·intro done vals w1 hB _ hZ hni hcl hdn _
  have hz : RZ w0 S8 N0 st mem stack done vals w1 := hZ
  have hi := hdn 0 (by kernel_rfl)
  have h9 := hcl 9 _ rfl (by kernel_rfl)
  have hrd : RdI w1 st.mem.A mem := reads_grown HM.out hz.g HMO.out
  have hsz : N0 ≤ w1.heap.size := by have := hz.g.size; omega
  refine q36 rfl (.tmp 31) (.tmp 33) _ rfl N0 _ _ 1 8 Try.underlying22 q2C rfl (by omega) (v := vals 0) (by kernel_rfl) (hz.own0 hi hni) (A := st.mem.A) (m := st.mem.n) (c := st.mem.c) (by kernel_rfl) (by rw [HMN.out]; exact hrd) (q28 mem) (by simp only [maxLen, List.length_nil]; omega) (by simp only [List.length_nil]; omega) hsz ?_
  intro v2 w2 h1 h2 h3
  have h1 : OwnI w2 N0 v2 mem := by
   unfold OwnI
   rw [HMN.out, List.length_nil, Nat.zero_add] at h1
   exact h1
  have hlt := fun k hk => (World.ownsRow.lt (hz.own0 hi hni) k hk).1
  exact ⟨q16 rfl trivial (hB.grown h2 (by omega) (fun k hk => by have := hlt k hk; omega)) trivial h2.size trivial, fun _ => hz.app3 hi hni h9 h1 h2 h3 (by omega) (by omega)⟩
 ·intro done vals w1 hB _ hZ hni hcl hdn _
  have hz : RZ w0 S8 N0 st mem stack done vals w1 := hZ
  have hk := hcl 7 _ rfl (by kernel_rfl)
  refine q1D (v := .slice (some ⟨w1.heap.size, 0, none⟩) 0 0) (w' := w1.alloc (.cells #[] 3)) rfl (by kernel_rfl) ⟨q16 rfl trivial (hB.trans ((q00 _ _).mono (by have := hB.size; omega))) trivial (by simp) trivial, fun _ => ?_⟩
  exact hz.new4 hni hk
 ·intro done vals w1 hB _ hZ hni hcl hdn _
  refine q02 rfl ?_ ⟨q04 rfl, noturn rfl⟩
  kernel_rfl
 ·intro done vals w1 hB _ hZ hni hcl hdn _
  refine q02 rfl ?_ ⟨q04 rfl, noturn rfl⟩
  exact q0A rfl (by kernel_rfl) ((HX3.out w1 hB) 5 _ rfl) Try.underlying22 rfl
 ·intro done vals w1 hB _ hZ hni hcl hdn _
  have hz : RZ w0 S8 N0 st mem stack done vals w1 := hZ
  have hi := hdn 4 (by kernel_rfl)
  have h9 := hcl 11 _ rfl (by kernel_rfl)
  have hrd : RdI w1 st.stack.A stack := reads_grown HS.out hz.g HSO.out
  have hsz : N0 ≤ w1.heap.size := by have := hz.g.size; omega
  refine q36 rfl (.tmp 35) (.tmp 37) _ rfl N0 _ _ 1 8 Try.underlying22 q2C rfl (by omega) (v := vals 4) (by kernel_rfl) (hz.own4 hi hni) (A := st.stack.A) (m := st.stack.n) (c := st.stack.c) (by kernel_rfl) (by rw [HSN.out]; exact hrd) (q28 stack) (by simp only [maxLen, List.length_nil]; omega) (by simp only [List.length_nil]; omega) hsz ?_
  intro v2 w2 h1 h2 h3
  have h1 : OwnI w2 N0 v2 stack := by
   unfold OwnI
   rw [HSN.out, List.length_nil, Nat.zero_add] at h1
   exact h1
  have hlt := fun k hk => (World.ownsRow.lt (hz.own4 hi hni) k hk).1
  exact ⟨q16 rfl trivial (hB.grown h2 (by omega) (fun k hk => by have := hlt k hk; omega)) trivial h2.size trivial, fun _ => hz.app7 hi hni h9 h1 h2 h3 (by omega) (by omega)⟩
 ·intro done vals w1 hB _ hZ hni hcl hdn _
  refine q02 rfl ?_ ⟨q04 rfl, noturn rfl⟩
  kernel_rfl
 ·intro done vals w1 hB _ hZ hni hcl hdn _
  have hz : RZ w0 S8 N0 st mem stack done vals w1 := hZ
  have hj := hdn 3 (by kernel_rfl)
  obtain ⟨s, es, hs⟩ := (hz.done3 hj).sl
  have hst := q08 w1 ⟨S8, 4, none⟩ (.slice s.A s.n s.c)
  refine q14 (w' := w1.setCell ⟨S8, 4, none⟩ (.slice s.A s.n s.c)) rfl ?_ ⟨q15 rfl (hB.setCell (Nat.le_refl _) _) trivial hst.size trivial, fun _ => hz.st9 hj hni es (by omega)⟩
  rw [q0D es]
  exact q13 rfl (by kernel_rfl) (by kernel_rfl) (q22 (CellsAt.of_block hz.x 4 _ rfl) (frozen_of_row w1 S8 4 _ _ hz.x) (by kernel_rfl))
 ·intro done vals w1 hB _ hZ hni hcl hdn _
  refine q02 rfl ?_ ⟨q04 rfl, noturn rfl⟩
  kernel_rfl
 ·intro done vals w1 hB _ hZ hni hcl hdn _
  have hz : RZ w0 S8 N0 st mem stack done vals w1 := hZ
  have hj := hdn 7 (by kernel_rfl)
  obtain ⟨s, es, hs⟩ := (hz.done7 hj).sl
  have hst := q08 w1 ⟨S8, 5, none⟩ (.slice s.A s.n s.c)
  refine q14 (w' := w1.setCell ⟨S8, 5, none⟩ (.slice s.A s.n s.c)) rfl ?_ ⟨q15 rfl (hB.setCell (Nat.le_refl _) _) trivial hst.size trivial, fun _ => hz.st11 hj hni es (by omega)⟩
  rw [q0D es]
  exact q13 rfl (by kernel_rfl) (by kernel_rfl) (q22 (CellsAt.of_block hz.x 5 _ rfl) (frozen_of_row w1 S8 5 _ _ hz.x) (by kernel_rfl))
 intro done vals w9 b9 _ hall hZ hr
 have hz : RZ w0 S8 N0 st mem stack done vals w9 := hZ
 obtain ⟨sM, eM, hM⟩ := (hz.done3 (hall 3 (by simp))).sl
 obtain ⟨sS, eS, hS⟩ := (hz.done7 (hall 7 (by simp))).sl
 clear hr
 simp only [fillT, Tell.is, Tell.turns, Act.put, List.setIfInBounds_toArray, List.set_cons_zero, List.set_cons_succ]
 refine hQ _ _ _ _ _ _ _ _ _ _ w9 sM sS hM hS ?_ ?_ hz.g
 ·have := hz.ap
  simp only [rowV, hall 3 (by simp), hall 7 (by simp), if_true, eM, eS] at this
  exact this
 ·have := hz.x
  simp only [retCs, hall 9 (by simp), hall 11 (by simp), if_true, eM, eS] at this
  exact this
set_option maxRecDepth 100000 in
set_option maxHeartbeats 2000000 in
theorem val7_any (p : Prg) (s : State) (vr : Bool) (vn : Int) (w : World) (hW : p.W = 1 ∨ p.W = 2) (hn : 0 ≤ vn ∧ vn ≤ 3) :
  Calls Try.prog 72 #[p.v, .agg #[.int .i64 s.r0, .int .i64 s.r1, .int .i64 s.r2, .int .i64 s.r3], .agg #[.bool vr, .int .i64 vn]] w fun en w' =>
   en = .returned (.int .i64 (valS p.W s vr vn)) ∧ Below w.heap.size w w' := by
 have HM := Kept.mk (fun n w => q23 p.W n hW w)
 have HB := Kept.mk (((q00 w (.cells p.cs.toArray 33)).alloc (by simp) (.cells #[.int .i64 s.r0, .int .i64 s.r1, .int .i64 s.r2, .int .i64 s.r3] 28)).alloc (by simp; omega) (.cells #[.bool vr, .int .i64 vn] 51))
 have h4 : vn = 0 ∨ vn = 1 ∨ vn = 2 ∨ vn = 3 := by omega
 clear hn hW
 unfold valS
 cases vr with
 | true =>
  rw [if_pos rfl]
  rcases h4 with rfl | rfl | rfl | rfl
  all_goals
   go_enter Try.func72, Try.ntmps72
   go_wp2_with fail
   go_ret
   exact ⟨rfl, HB.out⟩
 | false =>
  rw [if_neg (by simp)]
  clear h4
  go_enter Try.func72, Try.ntmps72
  go_wp2_with fail
  refine (HM.out vn _).mono ?_
  rintro en w1 ⟨rfl, rfl⟩
  go_wp2_with fail
  go_ret
  exact ⟨rfl, HB.out⟩
structure StAll (w : World) (c : Stt) (s : State) : Prop where
 st : StIs w c s
 tm : Tag w 3 c.mem.A c.mem.n
 ts : Tag w 3 c.stack.A c.stack.n
theorem StAll.rest {w : World} {c : Stt} {s : State} (h : StAll w c s) : CfRest w c.mem c.stack Sl.none s.mem s.stack [] := ⟨h.st.mem, h.st.stack, RdIs.nil, h.tm, h.ts, Tag.zero⟩
theorem StAll.past {w w' : World} {c : Stt} {s : State} (h : StAll w c s) (hb : Below w.heap.size w w') : StAll w' c s := ⟨h.st.past hb, h.tm.past hb, h.ts.past hb⟩
theorem StAll.row {w w' : World} {c : Stt} {s : State} {g : Nat} {t : TypeId} (h : StAll w c s) (hs : RowStep g t w w') (ht : t ≠ 3) : StAll w' c s := by
 have := h.rest.row hs ht
 exact ⟨⟨h.st.r0, h.st.r1, h.st.r2, h.st.r3, this.xa, this.xb, h.st.pc⟩, this.ta, this.tb⟩
theorem q38 {w wq : World} {S4 : Nat} {old e : Stt} {s' : State} (X4 : wq.heap[S4]? = some (.cells old.cs.toArray 36 (0, 0))) (hb : Below w.heap.size w wq) (h4 : w.heap.size ≤ S4) (hr : StAll wq e s') :
  (((((((wq.setCell ⟨S4, 0, none⟩ (.int .i64 e.r0)).setCell ⟨S4, 1, none⟩ (.int .i64 e.r1)).setCell ⟨S4, 2, none⟩ (.int .i64 e.r2)).setCell ⟨S4, 3, none⟩ (.int .i64 e.r3)).setCell ⟨S4, 4, none⟩ (.slice e.mem.A e.mem.n e.mem.c)).setCell ⟨S4, 5, none⟩ (.slice e.stack.A e.stack.n e.stack.c)).setCell ⟨S4, 6, none⟩ (.int .i64 e.pc)).heap[S4]? = some (.cells e.cs.toArray 36 (0, 0)) ∧
   StAll (((((((wq.setCell ⟨S4, 0, none⟩ (.int .i64 e.r0)).setCell ⟨S4, 1, none⟩ (.int .i64 e.r1)).setCell ⟨S4, 2, none⟩ (.int .i64 e.r2)).setCell ⟨S4, 3, none⟩ (.int .i64 e.r3)).setCell ⟨S4, 4, none⟩ (.slice e.mem.A e.mem.n e.mem.c)).setCell ⟨S4, 5, none⟩ (.slice e.stack.A e.stack.n e.stack.c)).setCell ⟨S4, 6, none⟩ (.int .i64 e.pc)) e s' ∧
   Below w.heap.size w (((((((wq.setCell ⟨S4, 0, none⟩ (.int .i64 e.r0)).setCell ⟨S4, 1, none⟩ (.int .i64 e.r1)).setCell ⟨S4, 2, none⟩ (.int .i64 e.r2)).setCell ⟨S4, 3, none⟩ (.int .i64 e.r3)).setCell ⟨S4, 4, none⟩ (.slice e.mem.A e.mem.n e.mem.c)).setCell ⟨S4, 5, none⟩ (.slice e.stack.A e.stack.n e.stack.c)).setCell ⟨S4, 6, none⟩ (.int .i64 e.pc)) :=
 ⟨stt_set old e X4, hr.row ⟨⟨_, X4⟩, grown7 wq S4 e⟩ (by decide), below7 e hb h4⟩
def SeqPost (r : State × Int) (w : World) (en : Ending) (w' : World) : Prop := ∃ (c : Stt) (ov : Value), en = .returned (.tuple #[c.v, ov, .int .i64 r.2]) ∧ StAll w' c r.1 ∧ Below w.heap.size w w'
theorem StAll.with {w : World} {c : Stt} {s : State} (h : StAll w c s) (a0 a1 a2 a3 p : Int) : StAll w ⟨a0, a1, a2, a3, c.mem, c.stack, p⟩ ⟨a0, a1, a2, a3, s.mem, s.stack, p⟩ := ⟨⟨rfl, rfl, rfl, rfl, h.st.mem, h.st.stack, rfl⟩, h.tm, h.ts⟩
structure BTz (w0 : World) (b : Nat) (t : TypeId) (old new : List Value) (d : Bool) (w : World) : Prop where
 g : w0.grownBy w (some b)
 x : w.heap[b]? = some (.cells (if d = true then new else old).toArray t (0, 0))
theorem BTz.start {w0 : World} {g : Nat} {t : TypeId} {old new : List Value} (h : w0.heap[g]? = some (.cells old.toArray t (0, 0))) : BTz w0 g t old new false w0.drew := ⟨q1A (Below.refl _ _).drew _, h⟩
theorem BTz.other {w0 w w' : World} {g : Nat} {t : TypeId} {old new : List Value} {d : Bool} (h : BTz w0 g t old new d w) (hb : Below w.heap.size w w') : BTz w0 g t old new d w' := ⟨h.g.trans (q1A hb _), q01 h.x hb⟩
theorem BTz.step {w0 w w' : World} {g s i : Nat} {t : TypeId} {old new : List Value} {done : Nat → Bool} (h : BTz w0 g t old new (done s) w) (hs : ¬ s = i) (hb : Below w.heap.size w w') : BTz w0 g t old new (done s || s == i) w' := by
 rw [show (s == i) = false by simpa using hs, Bool.or_false]
 exact h.other hb
theorem BTz.did {w0 w w' : World} {g s : Nat} {t : TypeId} {old new : List Value} {done : Nat → Bool} (h : BTz w0 g t old new (done s) w) (hg : w.grownBy w' (some g)) (hx : w'.heap[g]? = some (.cells new.toArray t (0, 0))) : BTz w0 g t old new (done s || s == s) w' := by
 refine ⟨h.g.trans hg, ?_⟩
 rw [show (s == s) = true by simp, Bool.or_true, if_pos rfl]
 exact hx
structure RTz (w0 : World) (B b : Nat) (v : Value) (l l' : List Int) (d : Bool) (w : World) : Prop where
 g : w0.grownBy w (some b)
 x : OwnI w B v (if d = true then l' else l)
theorem RTz.start {w0 : World} {B b : Nat} {v : Value} {l l' : List Int} (h : OwnI w0 B v l) : RTz w0 B b v l l' false w0.drew := ⟨q1A (Below.refl _ _).drew _, OwnI.past h (Below.refl _ _).drew⟩
theorem RTz.step {w0 w w' : World} {B b s i : Nat} {v : Value} {l l' : List Int} {done : Nat → Bool} (h : RTz w0 B b v l l' (done s) w) (hs : ¬ s = i) (hb : Below w.heap.size w w') : RTz w0 B b v l l' (done s || s == i) w' := by
 rw [show (s == i) = false by simpa using hs, Bool.or_false]
 exact ⟨h.g.trans (q1A hb _), OwnI.past h.x hb⟩
theorem RTz.did {w0 w w' : World} {B b s : Nat} {v : Value} {l l' : List Int} {done : Nat → Bool} (h : RTz w0 B b v l l' (done s) w) (hg : w.grownBy w' (some b)) (hx : OwnI w' B v l') : RTz w0 B b v l l' (done s || s == s) w' := by
 refine ⟨h.g.trans hg, ?_⟩
 rw [show (s == s) = true by simp, Bool.or_true, if_pos rfl]
 exact hx
theorem exec_arr4 {w : World} {o : Oper} {ev : Operand → Value} {x i : Operand} {b k : Nat} (ho : o.op = .indexAddr 28 x i) (hx : ev x = .pointer (some ⟨b, 0, none⟩)) (hi : ev i = .int .i64 (k : Int)) (hk : k < 4) : (execOp ev o).run Try.prog w = .ok (.value (.pointer (some ⟨b, k, none⟩))) w := by
 rcases (show k = 0 ∨ k = 1 ∨ k = 2 ∨ k = 3 by omega) with rfl | rfl | rfl | rfl
 all_goals
  unfold execOp
  simp only [ho, hx, hi]
  kernel_rfl
end
section
set_option maxRecDepth 100000 in
set_option maxHeartbeats 1600000 in
theorem same7 (cx cy : Stt) (mx my : State) (w : World) (hx : StIs w cx mx) (hy : StIs w cy my) (hm : mx.mem.length ≤ 1000) (hs : mx.stack.length ≤ 1000)
  (km : my.mem.length ≤ 1000) (ks : my.stack.length ≤ 1000) : Calls Try.prog 40 #[cx.v, cy.v] w fun en w' => en = .returned (.bool (decide (stInts mx = stInts my))) ∧ Below w.heap.size w w' := by
 have hlx : (stInts mx).length ≤ 20000 := by rw [stInts_length]; omega
 have HX0 := Kept.mk (fun w1 h1 => ints7 cx mx w1 h1 hm hs)
 have HY0 := Kept.mk (fun w1 h1 => ints7 cy my w1 h1 km ks)
 have HCX := Kept.mk hx
 have HCY := Kept.mk hy
 generalize stInts mx = lx at *
 generalize stInts my = ly at *
 clear hm hs km ks hx hy
 obtain ⟨xr0, xr1, xr2, xr3, ⟨xmA, xmN, xmC⟩, ⟨xsA, xsN, xsC⟩, xpc⟩ := cx
 obtain ⟨yr0, yr1, yr2, yr3, ⟨ymA, ymN, ymC⟩, ⟨ysA, ysN, ysC⟩, ypc⟩ := cy
 go_enter Try.func40, Try.ntmps40
 go_upto_region 1 with (fail)
 have bb := (q00 w (.cells #[.int .i64 (xr0), .int .i64 (xr1), .int .i64 (xr2), .int .i64 (xr3), .slice xmA xmN xmC, .slice xsA xsN xsC, .int .i64 (xpc)] 36)).alloc (by simp) (.cells #[.int .i64 (yr0), .int .i64 (yr1), .int .i64 (yr2), .int .i64 (yr3), .slice ymA ymN ymC, .slice ysA ysN ysC, .int .i64 (ypc)] 36)
 have x2 := q01 (heap_alloc_new w (.cells #[.int .i64 (xr0), .int .i64 (xr1), .int .i64 (xr2), .int .i64 (xr3), .slice xmA xmN xmC, .slice xsA xsN xsC, .int .i64 (xpc)] 36)) (q00 _ (.cells #[.int .i64 (yr0), .int .i64 (yr1), .int .i64 (yr2), .int .i64 (yr3), .slice ymA ymN ymC, .slice ysA ysN ysC, .int .i64 (ypc)] 36))
 have x3 := heap_alloc2_new w (.cells #[.int .i64 (xr0), .int .i64 (xr1), .int .i64 (xr2), .int .i64 (xr3), .slice xmA xmN xmC, .slice xsA xsN xsC, .int .i64 (xpc)] 36) (.cells #[.int .i64 (yr0), .int .i64 (yr1), .int .i64 (yr2), .int .i64 (yr3), .slice ymA ymN ymC, .slice ysA ysN ysC, .int .i64 (ypc)] 36)
 have W2 := Kept.mk bb
 clear bb
 generalize (w.alloc (.cells #[.int .i64 (xr0), .int .i64 (xr1), .int .i64 (xr2), .int .i64 (xr3), .slice xmA xmN xmC, .slice xsA xsN xsC, .int .i64 (xpc)] 36)).alloc (.cells #[.int .i64 (yr0), .int .i64 (yr1), .int .i64 (yr2), .int .i64 (yr3), .slice ymA ymN ymC, .slice ysA ysN ysC, .int .i64 (ypc)] 36) = w2 at *
 have X2 : Kept (∀ w1, Below w2.heap.size w2 w1 → CellsAt w1 w.heap.size 0 [.int .i64 (xr0), .int .i64 (xr1), .int .i64 (xr2), .int .i64 (xr3), .slice xmA xmN xmC, .slice xsA xsN xsC, .int .i64 (xpc)]) := ⟨fun w1 hb => CellsAt.of_block (q01 x2 hb)⟩
 have X3 : Kept (∀ w1, Below w2.heap.size w2 w1 → CellsAt w1 (w.heap.size + 1) 0 [.int .i64 (yr0), .int .i64 (yr1), .int .i64 (yr2), .int .i64 (yr3), .slice ymA ymN ymC, .slice ysA ysN ysC, .int .i64 (ypc)]) := ⟨fun w1 hb => CellsAt.of_block (q01 x3 hb)⟩
 have HX := Kept.mk (fun w1 (hb : Below w2.heap.size w2 w1) => HX0.out w1 ((HCX.out.past W2.out).past hb))
 have HY := Kept.mk (fun w1 (hb : Below w2.heap.size w2 w1) => HY0.out w1 ((HCY.out.past W2.out).past hb))
 clear HX0 HY0 HCX HCY x2 x3
 refine q1E (w2.heap.size) (G := fun _ => True) (ts := [
   .is (Value.agg #[.int .i64 (xr0), .int .i64 (xr1), .int .i64 (xr2), .int .i64 (xr3), .slice xmA xmN xmC, .slice xsA xsN xsC, .int .i64 (xpc)]),
   .makes (fun v w' => OwnI w' w2.heap.size v lx),
   .is (Value.agg #[.int .i64 (yr0), .int .i64 (yr1), .int .i64 (yr2), .int .i64 (yr3), .slice ymA ymN ymC, .slice ysA ysN ysC, .int .i64 (ypc)]),
   .makes (fun v w' => OwnI w' w2.heap.size v ly),
   .draws (.bool (decide (lx = ly))),
   .is (Value.bool (decide (lx = ly)))])
  (fin := []) (cs := []) (by kernel_rfl) rfl (by kernel_rfl) (by kernel_rfl)
  ⟨trivial, (fun _ _ _ h hb => OwnI.past h hb), trivial, (fun _ _ _ h hb => OwnI.past h hb), trivial, trivial, trivial⟩ (fun _ _ _ _ => trivial) (by simp) (by simp) trivial
  ⟨?_, ?_, ?_, ?_, ?_, ?_, trivial⟩ ?_
 ·intro vals w1 hB _ _
  refine q02 rfl ?_ (q04 rfl)
  exact q09 rfl (b := w.heap.size) (off := 0) (by kernel_rfl) [.int .i64 (xr0), .int .i64 (xr1), .int .i64 (xr2), .int .i64 (xr3), .slice xmA xmN xmC, .slice xsA xsN xsC, .int .i64 (xpc)] (X2.out w1 hB) Try.underlying36 rfl (by kernel_rfl)
 ·intro vals w1 hB _ _
  refine q12 (f := 76) (args := #[.agg #[.int .i64 (xr0), .int .i64 (xr1), .int .i64 (xr2), .int .i64 (xr3), .slice xmA xmN xmC, .slice xsA xsN xsC, .int .i64 (xpc)]]) (w1 := w1) rfl (by kernel_rfl) ?_
  refine (HX.out w1 hB).mono ?_
  rintro e1 w3 ⟨v3, rfl, ho, hb⟩
  exact ⟨_, rfl, q21 rfl (OwnI.lower ho hB.size) hb⟩
 ·intro vals w1 hB _ _
  refine q02 rfl ?_ (q04 rfl)
  exact q09 rfl (b := w.heap.size + 1) (off := 0) (by kernel_rfl) [.int .i64 (yr0), .int .i64 (yr1), .int .i64 (yr2), .int .i64 (yr3), .slice ymA ymN ymC, .slice ysA ysN ysC, .int .i64 (ypc)] (X3.out w1 hB) Try.underlying36 rfl (by kernel_rfl)
 ·intro vals w1 hB _ _
  refine q12 (f := 76) (args := #[.agg #[.int .i64 (yr0), .int .i64 (yr1), .int .i64 (yr2), .int .i64 (yr3), .slice ymA ymN ymC, .slice ysA ysN ysC, .int .i64 (ypc)]]) (w1 := w1) rfl (by kernel_rfl) ?_
  refine (HY.out w1 hB).mono ?_
  rintro e1 w3 ⟨v3, rfl, ho, hb⟩
  exact ⟨_, rfl, q21 rfl (OwnI.lower ho hB.size) hb⟩
 ·intro vals w1 hB _ hd
  have da : OwnI w1 w2.heap.size (vals 1) lx := hd 1 (by kernel_rfl)
  have db : OwnI w1 w2.heap.size (vals 3) ly := hd 3 (by kernel_rfl)
  clear hd
  obtain ⟨A1, c1, e1, _, r1⟩ := OwnI.shape da
  obtain ⟨A2, c2, e2, _, r2⟩ := OwnI.shape db
  refine q12 (f := 20) (args := #[vals 1, vals 3]) (w1 := w1) rfl (by kernel_rfl) ?_
  rw [e1, e2]
  refine (same_ints A1 A2 c1 c2 lx ly w1 r1 r2 (by omega)).mono ?_
  rintro e3 w3 ⟨rfl, hb⟩
  exact ⟨_, rfl, q18 rfl hb⟩
 ·intro vals w1 hB _ _
  refine q02 rfl ?_ (q04 rfl)
  kernel_rfl
 intro vals w9 b9 _ hr
 clear hr
 simp only [fillT, Tell.is, Tell.draws, Tell.makes, Act.put, List.setIfInBounds_toArray, List.set_cons_zero, List.set_cons_succ]
 go_wp2_with fail
 go_ret
 exact ⟨rfl, W2.out.trans (b9.mono W2.out.size)⟩
end
end Go.Proofs.Ytchldbkjapnlcaa
