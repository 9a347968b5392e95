/- Programs of numbers, layer 6: the numbers that are asked for; a Val of a number. Programs of numbers, layer 6: an instruction of a number. Bytes in memory (seat F: what XByt has beyond XClone). -/
import Derived.Test.YtchldbkjapnlcaaJc
import Derived.Test.YtchldbkjapnlcaaJb
import Derived.BigRegion
import Derived.Test.YtchldbkjapnlcaaJa
import Derived.Lib.Bytealg
import Derived.Laws.IdiomStrings
import Derived.Laws.BytesArg
set_option linter.unusedVariables false
set_option linter.unusedSimpArgs false
namespace Go.Proofs.Ytchldbkjapnlcaa
open Go.RowKit
section
def kOf (l : List Int) (i : Int) : Int := (l[i.toNat]?).getD i
set_option maxRecDepth 100000 in
set_option maxHeartbeats 1000000 in
theorem kfn_any (b : Nat) (A : Option Addr) (l : List Int) (c : Nat) (i : Int) (w : World) (hx : w.cell? ⟨b, 0, none⟩ = some (.slice A l.length c)) (hr : RdI w A l) (hi : 0 ≤ i ∧ i ≤ 100) :
  Calls Try.prog 55 #[.int .i64 i, .pointer (some ⟨b, 0, none⟩)] w fun en w' => en = .returned (.int .i64 (kOf l i)) ∧ w = w' := by
 obtain ⟨k, rfl⟩ := Int.eq_ofNat_of_zero_le hi.1
 unfold kOf
 rw [Int.toNat_natCast]
 by_cases hk : k < l.length
 ·obtain ⟨lB, lO, rfl, hlb, hle⟩ := RdI.at_ hr hk
  have hki : (k : Int) < (l.length : Int) := by omega
  rw [List.getElem?_eq_getElem hk]
  clear hr hi
  go_enter Try.func55, Try.ntmps55
  go_wp2_with fail
  go_ret
  exact ⟨rfl, rfl⟩
 ·have hki : ¬ (k : Int) < (l.length : Int) := by omega
  rw [List.getElem?_eq_none (by omega)]
  clear hr hi
  go_enter Try.func55, Try.ntmps55
  go_wp2_with fail
  go_ret
  exact ⟨rfl, rfl⟩
set_option maxRecDepth 100000 in
set_option maxHeartbeats 1000000 in
theorem val_of (n : Int) (w : World) : Calls Try.prog 89 #[.int .i64 n] w fun en w' => ∃ (b : Bool) (k : Int), 0 ≤ k ∧ k ≤ 3 ∧ en = .returned (.agg #[.bool b, .int .i64 k]) ∧ w' = w.alloc (.cells #[.bool b, .int .i64 k] 51) := by
 obtain ⟨M, hM, hM0, hM1⟩ := mask3 n
 generalize hb : (bits .and .i64 n 4 == 0) = b
 cases b
 all_goals
  go_enter Try.func89, Try.ntmps89
  go_wp2_with fail
 ·refine q0C _ [.agg #[.bool true, .int .i64 M]] Try.results89 (.cons (.cell (cs := [.bool true, .int .i64 M]) (b := w.heap.size) (off := 0) rfl rfl (q05 (q06 (by simp))) Try.underlying51 rfl (by kernel_rfl)) .nil) rfl ⟨true, M, hM0, hM1, rfl, rfl⟩
 ·refine q0C _ [.agg #[.bool false, .int .i64 M]] Try.results89 (.cons (.cell (cs := [.bool false, .int .i64 M]) (b := w.heap.size) (off := 0) rfl rfl (q05 (q06 (by simp))) Try.underlying51 rfl (by kernel_rfl)) .nil) rfl ⟨false, M, hM0, hM1, rfl, rfl⟩
end
section
structure InsOk (e : Inst) (n : Int) : Prop where
 k : 1 ≤ e.kind ∧ e.kind ≤ 11
 op : (e.kind = 1 ∨ e.kind = 5) → 1 ≤ e.op ∧ e.op ≤ 10
 d : 0 ≤ e.d ∧ e.d ≤ 3
 t : 0 ≤ e.target ∧ e.target ≤ n
 an : 0 ≤ e.an ∧ e.an ≤ 3
 bn : 0 ≤ e.bn ∧ e.bn ≤ 3
theorem q29 {W : World} {o x : Obj} {g : Nat} (h : g < W.heap.size) (hx : W.heap[g]? = some x) : (W.alloc o).heap[g]? = some x := (heap_alloc_old W o h).trans hx
set_option maxRecDepth 100000 in
set_option maxHeartbeats 4000000 in
theorem ins_any (x n : Int) (hn : 1 ≤ n ∧ n ≤ 100) (w : World) : Calls Try.prog 57 #[.int .i64 x, .int .i64 n] w fun en w' => ∃ e : Inst, InsOk e n ∧ en = .returned e.v ∧ Below w.heap.size w w' := by
 obtain ⟨M, hM, hM0, hM1⟩ := mask255 x
 have hmod : ∃ k : Nat, M.tmod 18 = (k : Int) ∧ k < 18 := ⟨(M.tmod 18).toNat, by rw [Int.tmod_eq_emod_of_nonneg hM0]; omega, by rw [Int.tmod_eq_emod_of_nonneg hM0]; omega⟩
 obtain ⟨k, hk, hk18⟩ := hmod
 obtain ⟨u, hu, hu1, hu2⟩ : ∃ u : Int, [Value.int .i64 1, Value.int .i64 1, Value.int .i64 2, Value.int .i64 2, Value.int .i64 2, Value.int .i64 3, Value.int .i64 3, Value.int .i64 4, Value.int .i64 5, Value.int .i64 5, Value.int .i64 5, Value.int .i64 6, Value.int .i64 7, Value.int .i64 8, Value.int .i64 9, Value.int .i64 10, Value.int .i64 11, Value.int .i64 1][k]'(by simpa using hk18) = Value.int .i64 u ∧ 1 ≤ u ∧ u ≤ 11 := by
  have : k = 0 ∨ k = 1 ∨ k = 2 ∨ k = 3 ∨ k = 4 ∨ k = 5 ∨ k = 6 ∨ k = 7 ∨ k = 8 ∨ k = 9 ∨ k = 10 ∨ k = 11 ∨ k = 12 ∨ k = 13 ∨ k = 14 ∨ k = 15 ∨ k = 16 ∨ k = 17 := by omega
  rcases this with rfl | rfl | rfl | rfl | rfl | rfl | rfl | rfl | rfl | rfl | rfl | rfl | rfl | rfl | rfl | rfl | rfl | rfl
  all_goals exact ⟨_, rfl, by omega, by omega⟩
 go_enter Try.func57, Try.ntmps57
 go_wp2_with fail
 refine (val_of _ _).mono ?_
 rintro en _ ⟨ar, an, han0, han1, rfl, rfl⟩
 go_wp2_with fail
 refine (val_of _ _).mono ?_
 rintro en _ ⟨br, bn, hbn0, hbn1, rfl, rfl⟩
 clear hk hk18 hu hM
 have : u = 1 ∨ u = 2 ∨ u = 3 ∨ u = 4 ∨ u = 5 ∨ u = 6 ∨ u = 7 ∨ u = 8 ∨ u = 9 ∨ u = 10 ∨ u = 11 := by omega
 obtain ⟨M1, hM1a, hM1b, hM1c⟩ := mask255 (x / 65536)
 obtain ⟨q, hq, hq0, hq1⟩ : ∃ q : Int, M1.tmod 10 = q ∧ 0 ≤ q ∧ q ≤ 9 := ⟨_, rfl, by rw [Int.tmod_eq_emod_of_nonneg hM1b]; omega, by rw [Int.tmod_eq_emod_of_nonneg hM1b]; omega⟩
 obtain ⟨D, hD, hD0, hD1⟩ := mask3 (x / 16384)
 obtain ⟨T, hT, hT0, hT1⟩ := mask255 (x / 262144)
 obtain ⟨t, ht, ht0, ht1⟩ : ∃ t : Int, T.tmod (n + 1) = t ∧ 0 ≤ t ∧ t ≤ n := ⟨_, rfl, by rw [Int.tmod_eq_emod_of_nonneg hT0]; exact Int.emod_nonneg _ (by omega), by rw [Int.tmod_eq_emod_of_nonneg hT0]; have := Int.emod_lt_of_pos T (show 0 < n + 1 by omega); omega⟩
 have hn1 : ¬ n + 1 = 0 := by omega
 obtain ⟨hna, hnb⟩ := hn
 clear hu1 hu2
 rcases this with rfl | rfl | rfl | rfl | rfl | rfl | rfl | rfl | rfl | rfl | rfl
 ·clear ht hn1
  go_wp2_with fail
  go_region
  go_wp2_with fail
  refine q0C _ [Inst.v ⟨1, q + 1, D, ar, an, br, bn, ⟨#[]⟩, 0⟩] Try.results57 (.cons (.cell (cs := Inst.cs ⟨1, q + 1, D, ar, an, br, bn, ⟨#[]⟩, 0⟩) (b := w.heap.size) (off := 0) rfl rfl (q05 (by repeat (first | exact heap_alloc_new w _ | refine q29 (by simp <;> omega) ?_))) Try.underlying53 rfl (by kernel_rfl)) .nil) rfl ⟨⟨1, q + 1, D, ar, an, br, bn, ⟨#[]⟩, 0⟩, ⟨⟨by show (1 : Int) ≤ 1; decide, by show (1 : Int) ≤ 11; decide⟩, fun _ => ⟨by show (1 : Int) ≤ q + 1; omega, by show q + 1 ≤ 10; omega⟩, ⟨hD0, hD1⟩, ⟨by show (0 : Int) ≤ 0; omega, by show (0 : Int) ≤ n; omega⟩, (by first | exact ⟨han0, han1⟩ | exact ⟨by show (0 : Int) ≤ 0; decide, by show (0 : Int) ≤ 3; decide⟩), (by first | exact ⟨hbn0, hbn1⟩ | exact ⟨by show (0 : Int) ≤ 0; decide, by show (0 : Int) ≤ 3; decide⟩)⟩, rfl, by go_grown⟩
 ·clear ht hn1 hq
  go_wp2_with fail
  go_region
  go_wp2_with fail
  refine q0C _ [Inst.v ⟨2, 0, D, ar, an, br, bn, ⟨#[]⟩, 0⟩] Try.results57 (.cons (.cell (cs := Inst.cs ⟨2, 0, D, ar, an, br, bn, ⟨#[]⟩, 0⟩) (b := w.heap.size) (off := 0) rfl rfl (q05 (by repeat (first | exact heap_alloc_new w _ | refine q29 (by simp <;> omega) ?_))) Try.underlying53 rfl (by kernel_rfl)) .nil) rfl ⟨⟨2, 0, D, ar, an, br, bn, ⟨#[]⟩, 0⟩, ⟨⟨by show (1 : Int) ≤ 2; decide, by show (2 : Int) ≤ 11; decide⟩, fun h => absurd h (by show ¬ ((2 : Int) = 1 ∨ (2 : Int) = 5); decide), ⟨hD0, hD1⟩, ⟨by show (0 : Int) ≤ 0; omega, by show (0 : Int) ≤ n; omega⟩, (by first | exact ⟨han0, han1⟩ | exact ⟨by show (0 : Int) ≤ 0; decide, by show (0 : Int) ≤ 3; decide⟩), (by first | exact ⟨hbn0, hbn1⟩ | exact ⟨by show (0 : Int) ≤ 0; decide, by show (0 : Int) ≤ 3; decide⟩)⟩, rfl, by go_grown⟩
 ·clear ht hn1 hq
  go_wp2_with fail
  go_region
  go_wp2_with fail
  refine q0C _ [Inst.v ⟨3, 0, D, ar, an, br, bn, ⟨#[]⟩, 0⟩] Try.results57 (.cons (.cell (cs := Inst.cs ⟨3, 0, D, ar, an, br, bn, ⟨#[]⟩, 0⟩) (b := w.heap.size) (off := 0) rfl rfl (q05 (by repeat (first | exact heap_alloc_new w _ | refine q29 (by simp <;> omega) ?_))) Try.underlying53 rfl (by kernel_rfl)) .nil) rfl ⟨⟨3, 0, D, ar, an, br, bn, ⟨#[]⟩, 0⟩, ⟨⟨by show (1 : Int) ≤ 3; decide, by show (3 : Int) ≤ 11; decide⟩, fun h => absurd h (by show ¬ ((3 : Int) = 1 ∨ (3 : Int) = 5); decide), ⟨hD0, hD1⟩, ⟨by show (0 : Int) ≤ 0; omega, by show (0 : Int) ≤ n; omega⟩, (by first | exact ⟨han0, han1⟩ | exact ⟨by show (0 : Int) ≤ 0; decide, by show (0 : Int) ≤ 3; decide⟩), (by first | exact ⟨hbn0, hbn1⟩ | exact ⟨by show (0 : Int) ≤ 0; decide, by show (0 : Int) ≤ 3; decide⟩)⟩, rfl, by go_grown⟩
 ·clear ht hn1 hq
  go_wp2_with fail
  go_region
  go_wp2_with fail
  refine q0C _ [Inst.v ⟨4, 0, D, ar, an, br, bn, ⟨#[]⟩, 0⟩] Try.results57 (.cons (.cell (cs := Inst.cs ⟨4, 0, D, ar, an, br, bn, ⟨#[]⟩, 0⟩) (b := w.heap.size) (off := 0) rfl rfl (q05 (by repeat (first | exact heap_alloc_new w _ | refine q29 (by simp <;> omega) ?_))) Try.underlying53 rfl (by kernel_rfl)) .nil) rfl ⟨⟨4, 0, D, ar, an, br, bn, ⟨#[]⟩, 0⟩, ⟨⟨by show (1 : Int) ≤ 4; decide, by show (4 : Int) ≤ 11; decide⟩, fun h => absurd h (by show ¬ ((4 : Int) = 1 ∨ (4 : Int) = 5); decide), ⟨hD0, hD1⟩, ⟨by show (0 : Int) ≤ 0; omega, by show (0 : Int) ≤ n; omega⟩, (by first | exact ⟨han0, han1⟩ | exact ⟨by show (0 : Int) ≤ 0; decide, by show (0 : Int) ≤ 3; decide⟩), (by first | exact ⟨hbn0, hbn1⟩ | exact ⟨by show (0 : Int) ≤ 0; decide, by show (0 : Int) ≤ 3; decide⟩)⟩, rfl, by go_grown⟩
 ·obtain ⟨i4, hi4, hi40, hi41⟩ := mask3 (x / 65536)
  obtain ⟨j4, rfl⟩ := Int.eq_ofNat_of_zero_le hi40
  have hj4 : j4 < 4 := by omega
  obtain ⟨o, ho, ho0, ho1⟩ : ∃ o : Int, [Value.int .i64 9, Value.int .i64 10, Value.int .i64 3, Value.int .i64 2][j4]'(by simpa using hj4) = Value.int .i64 o ∧ 1 ≤ o ∧ o ≤ 10 := by
   have : j4 = 0 ∨ j4 = 1 ∨ j4 = 2 ∨ j4 = 3 := by omega
   rcases this with rfl | rfl | rfl | rfl
   all_goals exact ⟨_, rfl, by omega, by omega⟩
  clear hq hM1a
  go_wp2_with fail
  go_region
  go_wp2_with fail
  refine q0C _ [Inst.v ⟨5, o, 0, ar, an, br, bn, ⟨#[]⟩, t⟩] Try.results57 (.cons (.cell (cs := Inst.cs ⟨5, o, 0, ar, an, br, bn, ⟨#[]⟩, t⟩) (b := w.heap.size) (off := 0) rfl rfl (q05 (by repeat (first | exact heap_alloc_new w _ | refine q29 (by simp <;> omega) ?_))) Try.underlying53 rfl (by kernel_rfl)) .nil) rfl ⟨⟨5, o, 0, ar, an, br, bn, ⟨#[]⟩, t⟩, ⟨⟨by show (1 : Int) ≤ 5; decide, by show (5 : Int) ≤ 11; decide⟩, fun _ => ⟨ho0, ho1⟩, ⟨by show (0 : Int) ≤ 0; decide, by show (0 : Int) ≤ 3; decide⟩, ⟨ht0, ht1⟩, (by first | exact ⟨han0, han1⟩ | exact ⟨by show (0 : Int) ≤ 0; decide, by show (0 : Int) ≤ 3; decide⟩), (by first | exact ⟨hbn0, hbn1⟩ | exact ⟨by show (0 : Int) ≤ 0; decide, by show (0 : Int) ≤ 3; decide⟩)⟩, rfl, by go_grown⟩
 ·clear hq hM1a
  go_wp2_with fail
  refine q0C _ [Inst.v ⟨6, 0, 0, false, 0, false, 0, ⟨#[]⟩, t⟩] Try.results57 (.cons (.cell (cs := Inst.cs ⟨6, 0, 0, false, 0, false, 0, ⟨#[]⟩, t⟩) (b := w.heap.size) (off := 0) rfl rfl (q05 (by repeat (first | exact heap_alloc_new w _ | refine q29 (by simp <;> omega) ?_))) Try.underlying53 rfl (by kernel_rfl)) .nil) rfl ⟨⟨6, 0, 0, false, 0, false, 0, ⟨#[]⟩, t⟩, ⟨⟨by show (1 : Int) ≤ 6; decide, by show (6 : Int) ≤ 11; decide⟩, fun h => absurd h (by show ¬ ((6 : Int) = 1 ∨ (6 : Int) = 5); decide), ⟨by show (0 : Int) ≤ 0; decide, by show (0 : Int) ≤ 3; decide⟩, ⟨ht0, ht1⟩, (by first | exact ⟨han0, han1⟩ | exact ⟨by show (0 : Int) ≤ 0; decide, by show (0 : Int) ≤ 3; decide⟩), (by first | exact ⟨hbn0, hbn1⟩ | exact ⟨by show (0 : Int) ≤ 0; decide, by show (0 : Int) ≤ 3; decide⟩)⟩, rfl, by go_grown⟩
 ·clear hq hM1a
  go_wp2_with fail
  refine q0C _ [Inst.v ⟨7, 0, 0, ar, an, false, 0, ⟨#[]⟩, 0⟩] Try.results57 (.cons (.cell (cs := Inst.cs ⟨7, 0, 0, ar, an, false, 0, ⟨#[]⟩, 0⟩) (b := w.heap.size) (off := 0) rfl rfl (q05 (by repeat (first | exact heap_alloc_new w _ | refine q29 (by simp <;> omega) ?_))) Try.underlying53 rfl (by kernel_rfl)) .nil) rfl ⟨⟨7, 0, 0, ar, an, false, 0, ⟨#[]⟩, 0⟩, ⟨⟨by show (1 : Int) ≤ 7; decide, by show (7 : Int) ≤ 11; decide⟩, fun h => absurd h (by show ¬ ((7 : Int) = 1 ∨ (7 : Int) = 5); decide), ⟨by show (0 : Int) ≤ 0; decide, by show (0 : Int) ≤ 3; decide⟩, ⟨by show (0 : Int) ≤ 0; omega, by show (0 : Int) ≤ n; omega⟩, (by first | exact ⟨han0, han1⟩ | exact ⟨by show (0 : Int) ≤ 0; decide, by show (0 : Int) ≤ 3; decide⟩), (by first | exact ⟨hbn0, hbn1⟩ | exact ⟨by show (0 : Int) ≤ 0; decide, by show (0 : Int) ≤ 3; decide⟩)⟩, rfl, by go_grown⟩
 ·clear hq hM1a
  go_wp2_with fail
  refine q0C _ [Inst.v ⟨8, 0, 0, false, 0, false, 0, ⟨#[]⟩, t⟩] Try.results57 (.cons (.cell (cs := Inst.cs ⟨8, 0, 0, false, 0, false, 0, ⟨#[]⟩, t⟩) (b := w.heap.size) (off := 0) rfl rfl (q05 (by repeat (first | exact heap_alloc_new w _ | refine q29 (by simp <;> omega) ?_))) Try.underlying53 rfl (by kernel_rfl)) .nil) rfl ⟨⟨8, 0, 0, false, 0, false, 0, ⟨#[]⟩, t⟩, ⟨⟨by show (1 : Int) ≤ 8; decide, by show (8 : Int) ≤ 11; decide⟩, fun h => absurd h (by show ¬ ((8 : Int) = 1 ∨ (8 : Int) = 5); decide), ⟨by show (0 : Int) ≤ 0; decide, by show (0 : Int) ≤ 3; decide⟩, ⟨ht0, ht1⟩, (by first | exact ⟨han0, han1⟩ | exact ⟨by show (0 : Int) ≤ 0; decide, by show (0 : Int) ≤ 3; decide⟩), (by first | exact ⟨hbn0, hbn1⟩ | exact ⟨by show (0 : Int) ≤ 0; decide, by show (0 : Int) ≤ 3; decide⟩)⟩, rfl, by go_grown⟩
 ·clear hq hM1a
  go_wp2_with fail
  refine q0C _ [Inst.v ⟨9, 0, 0, false, 0, false, 0, ⟨#[]⟩, 0⟩] Try.results57 (.cons (.cell (cs := Inst.cs ⟨9, 0, 0, false, 0, false, 0, ⟨#[]⟩, 0⟩) (b := w.heap.size) (off := 0) rfl rfl (q05 (by repeat (first | exact heap_alloc_new w _ | refine q29 (by simp <;> omega) ?_))) Try.underlying53 rfl (by kernel_rfl)) .nil) rfl ⟨⟨9, 0, 0, false, 0, false, 0, ⟨#[]⟩, 0⟩, ⟨⟨by show (1 : Int) ≤ 9; decide, by show (9 : Int) ≤ 11; decide⟩, fun h => absurd h (by show ¬ ((9 : Int) = 1 ∨ (9 : Int) = 5); decide), ⟨by show (0 : Int) ≤ 0; decide, by show (0 : Int) ≤ 3; decide⟩, ⟨by show (0 : Int) ≤ 0; omega, by show (0 : Int) ≤ n; omega⟩, (by first | exact ⟨han0, han1⟩ | exact ⟨by show (0 : Int) ≤ 0; decide, by show (0 : Int) ≤ 3; decide⟩), (by first | exact ⟨hbn0, hbn1⟩ | exact ⟨by show (0 : Int) ≤ 0; decide, by show (0 : Int) ≤ 3; decide⟩)⟩, rfl, by go_grown⟩
 ·clear hq hM1a
  go_wp2_with fail
  refine q0C _ [Inst.v ⟨10, 0, 0, false, 0, false, 0, ⟨#[]⟩, 0⟩] Try.results57 (.cons (.cell (cs := Inst.cs ⟨10, 0, 0, false, 0, false, 0, ⟨#[]⟩, 0⟩) (b := w.heap.size) (off := 0) rfl rfl (q05 (by repeat (first | exact heap_alloc_new w _ | refine q29 (by simp <;> omega) ?_))) Try.underlying53 rfl (by kernel_rfl)) .nil) rfl ⟨⟨10, 0, 0, false, 0, false, 0, ⟨#[]⟩, 0⟩, ⟨⟨by show (1 : Int) ≤ 10; decide, by show (10 : Int) ≤ 11; decide⟩, fun h => absurd h (by show ¬ ((10 : Int) = 1 ∨ (10 : Int) = 5); decide), ⟨by show (0 : Int) ≤ 0; decide, by show (0 : Int) ≤ 3; decide⟩, ⟨by show (0 : Int) ≤ 0; omega, by show (0 : Int) ≤ n; omega⟩, (by first | exact ⟨han0, han1⟩ | exact ⟨by show (0 : Int) ≤ 0; decide, by show (0 : Int) ≤ 3; decide⟩), (by first | exact ⟨hbn0, hbn1⟩ | exact ⟨by show (0 : Int) ≤ 0; decide, by show (0 : Int) ≤ 3; decide⟩)⟩, rfl, by go_grown⟩
 ·clear hq hM1a
  go_wp2_with fail
  refine q0C _ [Inst.v ⟨11, 0, 0, false, 0, false, 0, ⟨#[]⟩, 0⟩] Try.results57 (.cons (.cell (cs := Inst.cs ⟨11, 0, 0, false, 0, false, 0, ⟨#[]⟩, 0⟩) (b := w.heap.size) (off := 0) rfl rfl (q05 (by repeat (first | exact heap_alloc_new w _ | refine q29 (by simp <;> omega) ?_))) Try.underlying53 rfl (by kernel_rfl)) .nil) rfl ⟨⟨11, 0, 0, false, 0, false, 0, ⟨#[]⟩, 0⟩, ⟨⟨by show (1 : Int) ≤ 11; decide, by show (11 : Int) ≤ 11; decide⟩, fun h => absurd h (by show ¬ ((11 : Int) = 1 ∨ (11 : Int) = 5); decide), ⟨by show (0 : Int) ≤ 0; decide, by show (0 : Int) ≤ 3; decide⟩, ⟨by show (0 : Int) ≤ 0; omega, by show (0 : Int) ≤ n; omega⟩, (by first | exact ⟨han0, han1⟩ | exact ⟨by show (0 : Int) ≤ 0; decide, by show (0 : Int) ≤ 3; decide⟩), (by first | exact ⟨hbn0, hbn1⟩ | exact ⟨by show (0 : Int) ≤ 0; decide, by show (0 : Int) ≤ 3; decide⟩)⟩, rfl, by go_grown⟩
end
section
def bytCs (l : List UInt8) : List Value := l.map fun b => .int .u8 b.toNat
def RdB (w : World) (A : Option Addr) (l : List UInt8) : Prop := Reads w w.heap.size 1 A l.length (bytCs l)
theorem RdB.at_ {w : World} {A : Option Addr} {l : List UInt8} (h : RdB w A l) {i : Nat} (hi : i < l.length) : ∃ b o, A = some ⟨b, o, none⟩ ∧ b < w.heap.size ∧ w.cell? ⟨b, o + i, none⟩ = some (.int .u8 l[i].toNat) := by
 obtain ⟨b, o, e, hb, hc⟩ := Reads.cells h hi
 refine ⟨b, o, e, hb, ?_⟩
 have := hc 0 (.int .u8 l[i].toNat) (by omega) (by simp [bytCs, hi])
 simpa using this
theorem run_string {w : World} {A : Option Addr} {n c : Nat} {l : List UInt8} (h : RdB w A l) (hl : l.length = n) : (convert 66 9 (.slice A n c)).run Try.prog w = .ok (.string ⟨l.toArray⟩) w := by
 subst hl
 cases A with
 | none =>
  have : l = [] := by
   rcases Nat.eq_zero_or_pos l.length with h0 | h0
   ·exact List.eq_nil_of_length_eq_zero h0
   ·obtain ⟨_, e, _⟩ := h.2 h0
    cases e
  subst this
  exact run_convert_bytes_nil w 66 5 Try.underlying66 Try.underlying5 _ _ 9 Try.underlying9
 | some a =>
  refine run_convert_bytes_back w 66 9 5 a c l Try.underlying66 Try.underlying5 Try.underlying9 fun j hj => ?_
  obtain ⟨b, o, e, _, hc⟩ := h.at_ hj
  cases e
  rw [Addr.add_lit]
  exact hc
end
end Go.Proofs.Ytchldbkjapnlcaa
