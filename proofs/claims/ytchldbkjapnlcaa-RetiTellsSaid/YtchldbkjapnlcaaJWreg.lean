/- RetiTells: the region that walks a part of the row. -/
import Derived.Test.YtchldbkjapnlcaaJl
import Derived.Test.YtchldbkjapnlcaaJd
import Derived.Test.YtchldbkjapnlcaaJe
import Derived.Deep.DeepCutAuto
set_option linter.unusedVariables false
set_option linter.unusedSimpArgs false
section
namespace Go.Proofs.Ytchldbkjapnlcaa
open Go.RowKit

noncomputable def regWk (id : Nat) : Code := (Try.f7.body.bind (findRegion id)).getD .skip
/-- What Walk answers, and its first part. -/
def WalkR (m : Conf) (v : Value) (w : World) : Prop := ∃ (c : Cnf) (A : Option Addr) (n cc : Nat), v = .tuple #[c.v, .slice A n cc] ∧ CfIs w c m ∧ CfTy w c
def CnfR (m : Conf) (v : Value) (w : World) : Prop := ∃ c : Cnf, v = c.v ∧ CfIs w c m ∧ CfTy w c
theorem cf_row {w w' : World} {c : Cnf} {m : Conf} {S : Nat} (h1 : CfIs w c m) (h2 : CfTy w c) (hs : RowStep S 41 w w') : CfIs w' c m ∧ CfTy w' c :=
 ⟨((CfAll.of h1 h2).row hs (by decide) (by decide)).cf h1, ((CfAll.of h1 h2).row hs (by decide) (by decide)).ty⟩
theorem WalkR.past {m : Conf} {v : Value} {w w' : World} (h : WalkR m v w) (hb : Below w.heap.size w w') : WalkR m v w' := by
 obtain ⟨c, A, n, cc, e, h1, h2⟩ := h
 exact ⟨c, A, n, cc, e, h1.past hb, h2.past hb⟩
theorem WalkR.row {m : Conf} {v : Value} {w w' : World} {S : Nat} (h : WalkR m v w) (hs : RowStep S 41 w w') : WalkR m v w' := by
 obtain ⟨c, A, n, cc, e, h1, h2⟩ := h
 exact ⟨c, A, n, cc, e, (cf_row h1 h2 hs).1, (cf_row h1 h2 hs).2⟩
theorem CnfR.past {m : Conf} {v : Value} {w w' : World} (h : CnfR m v w) (hb : Below w.heap.size w w') : CnfR m v w' := by
 obtain ⟨c, e, h1, h2⟩ := h
 exact ⟨c, e, h1.past hb, h2.past hb⟩
/-- What holds while the region goes on. -/
structure WZ (w0 : World) (m : Conf) (al st : Nat) (done : Nat → Bool) (vals : Nat → Value) (w : World) : Prop where
 s : w0.heap.size ≤ w.heap.size
 x : done al = true → ∃ (S : Nat), vals al = .pointer (some ⟨S, 0, none⟩) ∧ w0.heap.size ≤ S ∧ ∃ old : Cnf, w.heap[S]? = some (.cells old.cs.toArray 41 (0, 0))
 f : done al = true → done st = true → ∃ (S : Nat), vals al = .pointer (some ⟨S, 0, none⟩) ∧ w0.heap.size ≤ S ∧ ∃ c : Cnf, w.heap[S]? = some (.cells c.cs.toArray 41 (0, 0)) ∧ CfIs w c m ∧ CfTy w c
section
variable {w0 w w' : World} {m : Conf} {al st : Nat} {done : Nat → Bool} {vals : Nat → Value}
theorem WZ.fin (h : WZ w0 m al st done vals w) (h1 : done al = true) (h2 : done st = true) : ∃ (S : Nat), vals al = .pointer (some ⟨S, 0, none⟩) ∧ w0.heap.size ≤ S ∧ ∃ c : Cnf, w.heap[S]? = some (.cells c.cs.toArray 41 (0, 0)) ∧ CfIs w c m ∧ CfTy w c := h.f h1 h2
theorem WZ.start : WZ w0 m al st (fun _ => false) (fun _ => undef) w0.drew := ⟨Nat.le_refl _, fun h => (by cases h), fun h => (by cases h)⟩
theorem WZ.other {i : Nat} {v : Value} (h : WZ w0 m al st done vals w) (ha : ¬ al = i) (hs : ¬ st = i) (hb : Below w.heap.size w w') : WZ w0 m al st (fun j => done j || j == i) (fun j => if j = i then v else vals j) w' := by
 have e : ∀ k, ¬ k = i → (done k || k == i) = done k := fun k hk => by rw [show (k == i) = false by simpa using hk, Bool.or_false]
 refine ⟨Nat.le_trans h.s hb.size, fun hd => ?_, fun hd hd2 => ?_⟩
 ·simp only [e al ha] at hd
  simp only [if_neg ha]
  obtain ⟨S, h1, h2, c, h3⟩ := h.x hd
  exact ⟨S, h1, h2, c, heap_keep h3 hb⟩
 ·simp only [e al ha] at hd
  simp only [e st hs] at hd2
  simp only [if_neg ha]
  obtain ⟨S, h1, h2, c, h3, h4, h5⟩ := h.f hd hd2
  exact ⟨S, h1, h2, c, heap_keep h3 hb, h4.past hb, h5.past hb⟩
theorem WZ.made (h : WZ w0 m al st done vals w) (hst : done st = false) (hne : al ≠ st := by decide) : WZ w0 m al st (fun j => done j || j == al) (fun j => if j = al then .pointer (some ⟨w.heap.size, 0, none⟩) else vals j) (w.alloc (.cells Cnf.zero.cs.toArray 41)) := by
 refine ⟨Nat.le_trans h.s (below_alloc_self _ _).size, fun _ => ⟨w.heap.size, by simp only [if_true], h.s, Cnf.zero, heap_alloc_new w _⟩, fun _ hd2 => ?_⟩
 have hd2 : (done st || st == al) = true := hd2
 rw [hst, Bool.false_or] at hd2
 exact absurd (by simpa using hd2) (Ne.symm hne)
theorem WZ.stored (h : WZ w0 m al st done vals w) (_ : done al = true) (S : Nat) (es : vals al = .pointer (some ⟨S, 0, none⟩)) (hS : w0.heap.size ≤ S) (c : Cnf) (hx : w'.heap[S]? = some (.cells c.cs.toArray 41 (0, 0))) (hs : RowStep S 41 w w') (h1 : CfIs w c m) (h2 : CfTy w c) (hne : al ≠ st := by decide) {v : Value} :
  WZ w0 m al st (fun j => done j || j == st) (fun j => if j = st then v else vals j) w' := by
 refine ⟨Nat.le_trans h.s hs.2.size, fun _ => ⟨S, by simp only [if_neg hne]; exact es, hS, c, hx⟩, fun _ _ => ⟨S, by simp only [if_neg hne]; exact es, hS, c, hx, (cf_row h1 h2 hs).1, (cf_row h1 h2 hs).2⟩⟩
end
set_option maxRecDepth 100000 in
set_option maxHeartbeats 2000000 in
theorem walk_region {z0 z1 z3 z4 z5 z6 z9 z11 z12 z13 z14 z15 z16 z17 z18 z19 z20 z21 z22 z23 z24 z25 z26 z27 z28 z29 z30 z31 z32 z33 z34 z35 z36 z37 z38 z39 z40 z41 z42 z43 z44 z45 z46 z47 z48 z49 z50 z51 z52 z53 z54 z55 z56 z57 z58 z59 z60 z61 z62 z63 z64 z65 z66 z67 z68 z69 z70 z71 z72 z73 z74 z75 z76 z77 z78 z79 z80 z81 z82 z83 : Value} (w0 : World) (g7 g8 n : Nat) (A4 : Option Addr) (c4 : Nat) (wk : List Int) (m : Conf) (ml : List MemE) (pW pwin pfuel pr0 pr1 pr2 pr3 : Int) (pmA plA pA : Option Addr) (pmC plN plC pN pC : Nat) (s0 s1 s2 s3 s6 : Int) (sA uA : Option Addr) (sN sC uN uC : Nat)
  (X7 : Kept (∀ w1, Below w0.heap.size w0 w1 → CellsAt w1 g7 0 [.int .i64 (pW), .int .i64 (pwin), .int .i64 (pfuel), .int .i64 (pr0), .int .i64 (pr1), .int .i64 (pr2), .int .i64 (pr3), .slice pmA ml.length pmC, .slice plA plN plC, .slice pA pN pC])) (X8 : Kept (∀ w1, Below w0.heap.size w0 w1 → CellsAt w1 g8 0 [.int .i64 (s0), .int .i64 (s1), .int .i64 (s2), .int .i64 (s3), .slice sA sN sC, .slice uA uN uC, .int .i64 (s6)]))
  (HCUT : Kept (∀ w1, (Instr.slice 22 (.slice A4 wk.length c4) none (some (.int .i64 ((n : Nat) : Int))) none).run Try.prog w1 = .ok (.slice A4 n c4) w1))
  (HWK : Kept (∀ w1, Below w0.heap.size w0 w1 → Calls Try.prog 25 #[.agg #[.int .i64 (pW), .int .i64 (pwin), .int .i64 (pfuel), .int .i64 (pr0), .int .i64 (pr1), .int .i64 (pr2), .int .i64 (pr3), .slice pmA ml.length pmC, .slice plA plN plC, .slice pA pN pC], .agg #[.int .i64 (s0), .int .i64 (s1), .int .i64 (s2), .int .i64 (s3), .slice sA sN sC, .slice uA uN uC, .int .i64 (s6)], .slice A4 n c4] w1 fun en w' => ∃ (c : Cnf) (dv : Value), en = .returned (.tuple #[c.v, dv]) ∧ CfIs w' c m ∧ CfTy w' c ∧ (∃ (A : Option Addr) (nn cc : Nat), dv = .slice A nn cc) ∧ Below w1.heap.size w1 w'))
  (Q : Exit → Act → World → Prop) (hQ : ∀ (u37 u38 u39 u40 u41 u42 u36 u43 u44 : Value) (w' : World) (S : Nat) (c : Cnf) (dA : Option Addr) (dN dC : Nat), w'.heap[S]? = some (.cells c.cs.toArray 41 (0, 0)) → CfIs w' c m → CfTy w' c → w0.heap.size ≤ S → Below w0.heap.size w0 w' → Q .normal ⟨#[z0, z1, .slice A4 wk.length c4, z3, z4, z5, z6, .pointer (some ⟨g7, 0, none⟩), .pointer (some ⟨g8, 0, none⟩), z9, .int .i64 ((n : Nat) : Int), .pointer (some ⟨S, 0, none⟩), .slice dA dN dC, z13, z14, z15, z16, z17, z18, z19, z20, z21, z22, z23, z24, z25, z26, z27, z28, z29, z30, z31, z32, z33, z34, z35, u36, u37, u38, u39, u40, u41, u42, u43, u44, z45, z46, z47, z48, z49, z50, z51, z52, z53, z54, z55, z56, z57, z58, z59, z60, z61, z62, z63, z64, z65, z66, z67, z68, z69, z70, z71, z72, z73, z74, z75, z76, z77, z78, z79, z80, z81, z82, z83], []⟩ w') :
  Code.wp Try.prog (regWk 6) Q ⟨#[z0, z1, .slice A4 wk.length c4, z3, z4, z5, z6, .pointer (some ⟨g7, 0, none⟩), .pointer (some ⟨g8, 0, none⟩), z9, .int .i64 ((n : Nat) : Int), z11, z12, z13, z14, z15, z16, z17, z18, z19, z20, z21, z22, z23, z24, z25, z26, z27, z28, z29, z30, z31, z32, z33, z34, z35, z36, z37, z38, z39, z40, z41, z42, z43, z44, z45, z46, z47, z48, z49, z50, z51, z52, z53, z54, z55, z56, z57, z58, z59, z60, z61, z62, z63, z64, z65, z66, z67, z68, z69, z70, z71, z72, z73, z74, z75, z76, z77, z78, z79, z80, z81, z82, z83], []⟩ w0 := by
 conv => arg 2; whnf
 refine region_tellz (fun done vals w => WZ w0 m 9 10 done vals w) (w0.heap.size) (G := fun _ => True) (ts := [
   .is (Value.agg #[.int .i64 (pW), .int .i64 (pwin), .int .i64 (pfuel), .int .i64 (pr0), .int .i64 (pr1), .int .i64 (pr2), .int .i64 (pr3), .slice pmA ml.length pmC, .slice plA plN plC, .slice pA pN pC]),
   .is (Value.agg #[.int .i64 (s0), .int .i64 (s1), .int .i64 (s2), .int .i64 (s3), .slice sA sN sC, .slice uA uN uC, .int .i64 (s6)]),
   .is (Value.slice A4 wk.length c4),
   .is (Value.int .i64 (((n : Nat) : Int))),
   .is (.slice A4 n c4),
   .makes (fun v w => WalkR m v w),
   .gets (fun v w => WalkR m v w),
   .gets (fun v w => CnfR m v w),
   .gets (fun v _ => ∃ (A : Option Addr) (n c : Nat), v = .slice A n c),
   .turns (fun v _ => True) (fun w w' => Below w.heap.size w w'),
   .sets (fun w w' => ∃ S, RowStep S 41 w w'),
   .gets (fun v _ => ∃ (A : Option Addr) (n c : Nat), v = .slice A n c)])
  (fin := [11]) (cs := [(10, 5), (10, 6), (9, 5), (9, 6), (9, 7), (9, 8), (9, 11), (10, 8), (10, 9), (10, 11)]) ?z0 ?zg (by kernel_rfl) rfl (by kernel_rfl) (by kernel_rfl)
  ⟨trivial, trivial, trivial, trivial, trivial, (fun _ _ _ h hb => WalkR.past h hb), (fun _ _ _ h hb => WalkR.past h hb), (fun _ _ _ h hb => CnfR.past h hb), (fun _ _ _ h _ => h), grows_pure _, (fun _ _ _ _ _ => trivial), (fun _ _ _ h _ => h), trivial⟩ (fun _ _ _ _ => trivial) ?cs (by omega) trivial
  ⟨?_, ?_, ?_, ?_, ?_, ?_, ?_, ?_, ?_, ?_, ?_, ?_, trivial⟩ ?_
 case z0 =>
  show _
  exact WZ.start
 case zg =>
  intro i done vals w1 w2 v hti hni hZ hb
  have hz := hZ
  ·skip
   have hz : WZ w0 m 9 10 done vals w1 := hz
   have ha : ¬ 9 = i := by rintro rfl; cases hti
   have hs : ¬ 10 = i := by rintro rfl; cases hti
   exact hz.other ha hs hb
 case cs =>
  intro p hp v w1 w2 hG hR hE
  simp only [List.mem_cons, List.not_mem_nil, or_false] at hp
  rcases hp with rfl | rfl | rfl | rfl | rfl | rfl | rfl | rfl | rfl | rfl
  ·exact by obtain ⟨S, hE⟩ := hE; exact WalkR.row hR hE
  ·exact by obtain ⟨S, hE⟩ := hE; exact WalkR.row hR hE
  ·exact WalkR.past hR hE
  ·exact WalkR.past hR hE
  ·exact CnfR.past hR hE
  ·exact hR
  ·exact hR
  ·exact hR
  ·exact hR
  ·exact hR
 ·intro done vals w1 hB _ hZ hni hcl hdn hd
  clear hd
  refine one_value (v := Value.agg #[.int .i64 (pW), .int .i64 (pwin), .int .i64 (pfuel), .int .i64 (pr0), .int .i64 (pr1), .int .i64 (pr2), .int .i64 (pr3), .slice pmA ml.length pmC, .slice plA plN plC, .slice pA pN pC]) rfl ?_ ⟨post_is rfl, noturn rfl⟩
  exact exec_load_row rfl (b := g7) (off := 0) (by kernel_rfl) [.int .i64 (pW), .int .i64 (pwin), .int .i64 (pfuel), .int .i64 (pr0), .int .i64 (pr1), .int .i64 (pr2), .int .i64 (pr3), .slice pmA ml.length pmC, .slice plA plN plC, .slice pA pN pC] (X7.out w1 hB) Try.underlying33 rfl (by kernel_rfl)
 ·intro done vals w1 hB _ hZ hni hcl hdn hd
  clear hd
  refine one_value (v := Value.agg #[.int .i64 (s0), .int .i64 (s1), .int .i64 (s2), .int .i64 (s3), .slice sA sN sC, .slice uA uN uC, .int .i64 (s6)]) rfl ?_ ⟨post_is rfl, noturn rfl⟩
  exact exec_load_row rfl (b := g8) (off := 0) (by kernel_rfl) [.int .i64 (s0), .int .i64 (s1), .int .i64 (s2), .int .i64 (s3), .slice sA sN sC, .slice uA uN uC, .int .i64 (s6)] (X8.out w1 hB) Try.underlying36 rfl (by kernel_rfl)
 ·intro done vals w1 hB _ hZ hni hcl hdn hd
  clear hd
  refine one_value (v := Value.slice A4 wk.length c4) rfl ?_ ⟨post_is rfl, noturn rfl⟩
  kernel_rfl
 ·intro done vals w1 hB _ hZ hni hcl hdn hd
  clear hd
  refine one_value (v := Value.int .i64 (((n : Nat) : Int))) rfl ?_ ⟨post_is rfl, noturn rfl⟩
  kernel_rfl
 ·intro done vals w1 hB _ hZ hni hcl hdn hd
  clear hd
  refine one_value (v := .slice A4 n c4) rfl ?_ ⟨post_is rfl, noturn rfl⟩
  have hq := HCUT.out w1
  simp only [fillT, Tell.is, Tell.draws, Tell.makes, Tell.gets, Act.put, List.setIfInBounds_toArray, List.set_cons_zero, List.set_cons_succ]
  go_simp
 ·intro done vals w1 hB _ hZ hni hcl hdn hd
  clear hd
  have hz : WZ w0 m 9 10 done vals w1 := hZ
  refine one_calls (f := 25) (args := #[.agg #[.int .i64 (pW), .int .i64 (pwin), .int .i64 (pfuel), .int .i64 (pr0), .int .i64 (pr1), .int .i64 (pr2), .int .i64 (pr3), .slice pmA ml.length pmC, .slice plA plN plC, .slice pA pN pC], .agg #[.int .i64 (s0), .int .i64 (s1), .int .i64 (s2), .int .i64 (s3), .slice sA sN sC, .slice uA uN uC, .int .i64 (s6)], .slice A4 n c4]) (w1 := w1) rfl (by kernel_rfl) ?_
  refine (HWK.out w1 hB).mono ?_
  rintro e1 w2 ⟨c, dv, rfl, h1, h2, ⟨A, nn, cc, rfl⟩, hb⟩
  exact ⟨_, rfl, post_makes rfl ⟨c, A, nn, cc, rfl, h1, h2⟩ hb, noturn rfl⟩
 ·intro done vals w1 hB _ hZ hni hcl hdn hd
  have da : WalkR m (vals 5) w1 := hd 5 (by kernel_rfl)
  clear hd
  refine one_value (v := vals 5) rfl ?_ ⟨post_gets rfl da, noturn rfl⟩
  kernel_rfl
 ·intro done vals w1 hB _ hZ hni hcl hdn hd
  have da : WalkR m (vals 6) w1 := hd 6 (by kernel_rfl)
  clear hd
  obtain ⟨c, A, nn, cc, ev, h1, h2⟩ := da
  refine one_value (v := c.v) rfl ?_ ⟨post_gets rfl ⟨c, rfl, h1, h2⟩, noturn rfl⟩
  rw [vals_at ev]
  kernel_rfl
 ·intro done vals w1 hB _ hZ hni hcl hdn hd
  have da : WalkR m (vals 6) w1 := hd 6 (by kernel_rfl)
  clear hd
  obtain ⟨c, A, nn, cc, ev, h1, h2⟩ := da
  refine one_value (v := .slice A nn cc) rfl ?_ ⟨post_gets rfl ⟨A, nn, cc, rfl⟩, noturn rfl⟩
  rw [vals_at ev]
  kernel_rfl
 ·intro done vals w1 hB _ hZ hni hcl hdn hd
  clear hd
  have hz : WZ w0 m 9 10 done vals w1 := hZ
  refine one_makes (v := .pointer (some ⟨w1.heap.size, 0, none⟩)) (w' := w1.alloc (.cells Cnf.zero.cs.toArray 41)) rfl (by kernel_rfl) ⟨post_turns rfl trivial (hB.alloc hB.size _) trivial (below_alloc_self _ _).size (below_alloc_self _ _), fun _ => hz.made (hcl 10 _ rfl (by kernel_rfl))⟩
 ·intro done vals w1 hB _ hZ hni hcl hdn hd
  have da : CnfR m (vals 7) w1 := hd 7 (by kernel_rfl)
  clear hd
  have hz : WZ w0 m 9 10 done vals w1 := hZ
  have hal := hdn 9 (by kernel_rfl)
  obtain ⟨c, ev, h1, h2⟩ := da
  obtain ⟨S, es, hS0, old, hx⟩ := hz.x hal
  obtain ⟨w2, hr2, hw2, hg2⟩ := run_store_box (P := Try.prog) (ty := 41) c.v c.cs rfl hx rfl rfl (by kernel_rfl)
  have hrs : RowStep S 41 w1 w2 := ⟨⟨_, hx⟩, hg2⟩
  refine one_skips (w' := w2) rfl ?_ ⟨post_sets rfl (hB.grown hg2 (by have := hB.size; omega) (fun k hk => by injection hk with hk; omega)) trivial hg2.size ⟨S, hrs⟩, fun _ => hz.stored hal S es hS0 c hw2 hrs h1 h2⟩
  rw [vals_at es]
  exact exec_store rfl (by kernel_rfl) (by rw [vals_at ev]; kernel_rfl) hr2
 ·intro done vals w1 hB _ hZ hni hcl hdn hd
  have da : ∃ (A : Option Addr) (n c : Nat), vals 8 = .slice A n c := hd 8 (by kernel_rfl)
  clear hd
  obtain ⟨A, nn, cc, ev⟩ := da
  refine one_value (v := .slice A nn cc) rfl ?_ ⟨post_gets rfl ⟨A, nn, cc, rfl⟩, noturn rfl⟩
  rw [← ev]
  kernel_rfl
 intro done vals w9 b9 _ hall hZ hr
 have hz : WZ w0 m 9 10 done vals w9 := hZ
 obtain ⟨S, es, hS0, c, hx, h1, h2⟩ := hz.fin (hall 9 (by simp)) (hall 10 (by simp))
 obtain ⟨dA, dN, dC, ed⟩ : ∃ (A : Option Addr) (n c : Nat), vals 11 = .slice A n c := hr 11 (by simp) (by simp)
 simp only [fillT, Tell.is, Tell.makes, Tell.gets, Tell.turns, Act.put, List.setIfInBounds_toArray, List.set_cons_zero, List.set_cons_succ]
 rw [es, ed]
 exact hQ _ _ _ _ _ _ _ _ _ w9 S c dA dN dC hx h1 h2 hS0 b9
end Go.Proofs.Ytchldbkjapnlcaa
end
