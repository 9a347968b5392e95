/- Programs of numbers, layer 6: what Make answers. -/
import Derived.Test.YtchldbkjapnlcaaJi
import Derived.Deep.DeepCutAuto
set_option linter.unusedVariables false
set_option linter.unusedSimpArgs false
namespace Go.Proofs.Ytchldbkjapnlcaa
open Go.RowKit
section
theorem prg_set {w : World} {g : Nat} {t : TypeId} (old e : Prg) (h : w.heap[g]? = some (.cells old.cs.toArray t (0, 0))) : ((((((((((w.setCell ⟨g, 0, none⟩ (.int .i64 e.W)).setCell ⟨g, 1, none⟩ (.int .i64 e.window)).setCell ⟨g, 2, none⟩ (.int .i64 e.fuel)).setCell ⟨g, 3, none⟩ (.int .i64 e.r0)).setCell ⟨g, 4, none⟩ (.int .i64 e.r1)).setCell ⟨g, 5, none⟩ (.int .i64 e.r2)).setCell ⟨g, 6, none⟩ (.int .i64 e.r3)).setCell ⟨g, 7, none⟩ (e.mems)).setCell ⟨g, 8, none⟩ (e.labels)).setCell ⟨g, 9, none⟩ (.slice e.A e.n e.c)).heap[g]? = some (.cells e.cs.toArray t (0, 0)) := by
 rw [heap_setCell_same _ g 9 _ t _ (heap_setCell_same _ g 8 _ t _ (heap_setCell_same _ g 7 _ t _ (heap_setCell_same _ g 6 _ t _ (heap_setCell_same _ g 5 _ t _ (heap_setCell_same _ g 4 _ t _ (heap_setCell_same _ g 3 _ t _ (heap_setCell_same _ g 2 _ t _ (heap_setCell_same _ g 1 _ t _ (heap_setCell_same _ g 0 _ t _ h)))))))))]
 simp [Prg.cs]
theorem prg_grown (w : World) (g : Nat) (e : Prg) : w.grownBy ((((((((((w.setCell ⟨g, 0, none⟩ (.int .i64 e.W)).setCell ⟨g, 1, none⟩ (.int .i64 e.window)).setCell ⟨g, 2, none⟩ (.int .i64 e.fuel)).setCell ⟨g, 3, none⟩ (.int .i64 e.r0)).setCell ⟨g, 4, none⟩ (.int .i64 e.r1)).setCell ⟨g, 5, none⟩ (.int .i64 e.r2)).setCell ⟨g, 6, none⟩ (.int .i64 e.r3)).setCell ⟨g, 7, none⟩ (e.mems)).setCell ⟨g, 8, none⟩ (e.labels)).setCell ⟨g, 9, none⟩ (.slice e.A e.n e.c)) (some g) := ((((((((((q08 w ⟨g, 0, none⟩ _).trans (q08 _ ⟨g, 1, none⟩ _)).trans (q08 _ ⟨g, 2, none⟩ _)).trans (q08 _ ⟨g, 3, none⟩ _)).trans (q08 _ ⟨g, 4, none⟩ _)).trans (q08 _ ⟨g, 5, none⟩ _)).trans (q08 _ ⟨g, 6, none⟩ _)).trans (q08 _ ⟨g, 7, none⟩ _)).trans (q08 _ ⟨g, 8, none⟩ _)).trans (q08 _ ⟨g, 9, none⟩ _))
theorem prg_below {w0 w : World} {B g : Nat} (e : Prg) (h : Below B w0 w) (hg : B ≤ g) : Below B w0 ((((((((((w.setCell ⟨g, 0, none⟩ (.int .i64 e.W)).setCell ⟨g, 1, none⟩ (.int .i64 e.window)).setCell ⟨g, 2, none⟩ (.int .i64 e.fuel)).setCell ⟨g, 3, none⟩ (.int .i64 e.r0)).setCell ⟨g, 4, none⟩ (.int .i64 e.r1)).setCell ⟨g, 5, none⟩ (.int .i64 e.r2)).setCell ⟨g, 6, none⟩ (.int .i64 e.r3)).setCell ⟨g, 7, none⟩ (e.mems)).setCell ⟨g, 8, none⟩ (e.labels)).setCell ⟨g, 9, none⟩ (.slice e.A e.n e.c)) := by
 iterate 10 refine Below.setCell ?_ (by exact hg) _
 exact h
theorem pick3 (y : Int) : ∃ (j : Nat) (u : Int) (hj : j < 4), bits .and .i64 y 3 = (j : Int) ∧ [Value.int .i64 0, Value.int .i64 0, Value.int .i64 1, Value.int .i64 2][j]'(by simpa using hj) = Value.int .i64 u ∧ (u = 0 ∨ u = 1 ∨ u = 2) := by
 obtain ⟨M, hM, h0, h1⟩ := mask3 y
 obtain ⟨j, rfl⟩ := Int.eq_ofNat_of_zero_le h0
 have hj : j < 4 := by omega
 have : j = 0 ∨ j = 1 ∨ j = 2 ∨ j = 3 := by omega
 rcases this with rfl | rfl | rfl | rfl
 ·exact ⟨0, 0, by omega, hM, rfl, by omega⟩
 ·exact ⟨1, 0, by omega, hM, rfl, by omega⟩
 ·exact ⟨2, 1, by omega, hM, rfl, by omega⟩
 ·exact ⟨3, 2, by omega, hM, rfl, by omega⟩
set_option maxRecDepth 100000 in
set_option maxHeartbeats 8000000 in
theorem make_any (AL : Option Addr) (l : List Int) (cL : Nat) (w : World) (hl : RdI w AL l) : Calls Try.prog 23 #[.slice AL l.length cL] w (MakePost w) := by
 have HL := Kept.mk hl
 have HK : Kept (∀ (i : Int) (wx : World), 0 ≤ i → i ≤ 100 → Below (w.heap.size + 1) (w.alloc (.cells #[.slice AL l.length cL] 22)) wx → Calls Try.prog 55 #[.int .i64 i, .pointer (some ⟨w.heap.size, 0, none⟩)] wx fun en w' => en = .returned (.int .i64 (kOf l i)) ∧ wx = w') := ⟨fun i wx h0 h1 hb =>
  kfn_any w.heap.size AL l cL i wx ((hb.cell (p := ⟨w.heap.size, 0, none⟩) (by show w.heap.size < _; omega)).trans (cell_of_row _ _ 0 _ _ _ (heap_alloc_new w _))) (hl.past ((q00 w _).trans (hb.mono (by omega)))) ⟨h0, h1⟩⟩
 obtain ⟨M0, hM0, hM0a, hM0b⟩ := mask1 (kOf l 0)
 obtain ⟨Mw, hMw, hMwa, hMwb⟩ := mask255 (kOf l 0 / 2)
 obtain ⟨q, hq, hq0, hq1⟩ : ∃ q : Int, Mw.tmod 3 = q ∧ 0 ≤ q ∧ q ≤ 2 := ⟨_, rfl, by rw [Int.tmod_eq_emod_of_nonneg hMwa]; omega, by rw [Int.tmod_eq_emod_of_nonneg hMwa]; omega⟩
 clear hl
 go_enter Try.func23, Try.ntmps23
 go_wp2_with fail
 refine (HK.out 0 _ (by omega) (by omega) ((Below.refl _ _).alloc (by simp) _)).mono ?_
 rintro en _ ⟨rfl, rfl⟩
 go_wp2_with fail
 refine (HK.out 0 _ (by omega) (by omega) ((Below.refl _ _).alloc (by simp) _)).mono ?_
 rintro en _ ⟨rfl, rfl⟩
 go_wp2_with fail
 generalize hWn : M0 + 1 = WN at *
 generalize hwi : q + 1 = win at *
 have hWN : WN = 1 ∨ WN = 2 := by omega
 have hWI : 1 ≤ win ∧ win ≤ 3 := by omega
 clear hM0 hM0a hM0b hMw hMwa hMwb hq hq0 hq1 hWn hwi
 go_loopw [5, 6, 7] (fun s5 s6 s7 wr => ∃ (k : Nat) (pub sec r0 r1 r2 r3 : Int), k ≤ 4 ∧ s7 = .int .i64 (k : Int) ∧ s5 = .int .i64 pub ∧ s6 = .int .i64 sec ∧ 0 ≤ pub ∧ pub ≤ 2 ∧ 0 ≤ sec ∧ sec ≤ 2 ∧
  wr.heap[w.heap.size + 1 + 1]? = some (.cells #[.int .i64 WN, .int .i64 win, .int .i64 6, .int .i64 r0, .int .i64 r1, .int .i64 r2, .int .i64 r3, .slice none 0 0, .slice none 0 0, .slice none 0 0] 33 (0, 0)) ∧ Below (w.heap.size + 1 + 1) ((w.alloc (.cells #[.slice AL l.length cL] 22)).alloc (.cells #[.int .i64 0, .int .i64 0, .int .i64 0, .int .i64 0, .int .i64 0, .int .i64 0, .int .i64 0, .slice none 0 0, .slice none 0 0, .slice none 0 0] 33)) wr) (fun _ _ s7 _ => 4 - (intOf s7).toNat)
 case atStart => exact ⟨0, 0, 0, 0, 0, 0, 0, by omega, rfl, rfl, rfl, by omega, by omega, by omega, by omega, q06 (by simp), by have := q00 ((w.alloc (.cells #[.slice AL l.length cL] 22)).alloc (.cells #[.int .i64 0, .int .i64 0, .int .i64 0, .int .i64 0, .int .i64 0, .int .i64 0, .int .i64 0, .slice none 0 0, .slice none 0 0, .slice none 0 0] 33)) (.cells #[.int .i64 WN, .int .i64 win, .int .i64 6, .int .i64 0, .int .i64 0, .int .i64 0, .int .i64 0, .slice none 0 0, .slice none 0 0, .slice none 0 0] 33); simpa using this⟩
 case round =>
  obtain ⟨k, pub, sec, r0, r1, r2, r3, hk, rfl, rfl, rfl, hp0, hp1, hs0, hs1, hx, hb⟩ := hrel
  have HKB := Kept.mk (fun (wx : World) (hbx : Below wr.heap.size wr wx) => HK.out 1 wx (by omega) (by omega) (((Below.refl _ _).alloc (by simp) _).trans ((hb.mono (by omega)).trans (hbx.mono (by have := hb.size; simp at this; omega)))))
  have HB := Kept.mk hb
  have HX := Kept.mk hx
  have S1 : w.heap.size + 1 + 1 < wr.heap.size := (Array.getElem?_eq_some_iff.1 hx).1
  have Y4 := fun j => cell_of_row wr (w.heap.size + 1 + 1) j _ _ _ hx
  have F4 := fun j => frozen_of_row wr (w.heap.size + 1 + 1) j _ _ hx
  have Y4a := fun ob j => cell_of_row (wr.alloc ob) (w.heap.size + 1 + 1) j _ _ _ (q01 hx (q00 wr ob))
  have F4a := fun ob j => frozen_of_row (wr.alloc ob) (w.heap.size + 1 + 1) j _ _ (q01 hx (q00 wr ob))
  clear hx hb
  have : k = 0 ∨ k = 1 ∨ k = 2 ∨ k = 3 ∨ k = 4 := by omega
  clear hk
  rcases this with rfl | rfl | rfl | rfl | rfl
  ·obtain ⟨j, u, hj, hju, hu, huc⟩ := pick3 (kOf l 1)
   go_wp2_with fail
   refine (HKB.out _ (q00 _ _)).mono ?_
   rintro en _ ⟨rfl, rfl⟩
   rcases huc with rfl | rfl | rfl
   ·go_wp2_with fail
    exact ⟨⟨1, pub, sec, 0, r1, r2, r3, by omega, by go_num, rfl, rfl, by omega, by omega, by omega, by omega, q01 (by have x1 := heap_setCell_same _ (w.heap.size + 1 + 1) 3 _ _ (.int .i64 0) (heap_setCell_same _ (w.heap.size + 1 + 1) 3 _ _ (.int .i64 0) (HX.out)); simpa using x1) (q00 _ _), ((HB.out.setCell (p := ⟨(w.heap.size + 1 + 1), 3, none⟩) (Nat.le_refl _) (.int .i64 0)).setCell (p := ⟨(w.heap.size + 1 + 1), 3, none⟩) (Nat.le_refl _) (.int .i64 0)).alloc (by simp [World.setCell] <;> omega) _⟩, by simp [intOf]⟩
   ·by_cases hpw : pub + WN ≤ 2
    ·go_wp2_with fail
     exact ⟨⟨1, pub + WN, sec, 1, r1, r2, r3, by omega, by go_num, rfl, rfl, by omega, by omega, by omega, by omega, q01 (by have x1 := heap_setCell_same _ (w.heap.size + 1 + 1) 3 _ _ (.int .i64 1) (HX.out); simpa using x1) (q00 _ _), (HB.out.setCell (p := ⟨(w.heap.size + 1 + 1), 3, none⟩) (Nat.le_refl _) (.int .i64 1)).alloc (by simp [World.setCell] <;> omega) _⟩, by simp [intOf]⟩
    ·go_wp2_with fail
     exact ⟨⟨1, pub, sec, 0, r1, r2, r3, by omega, by go_num, rfl, rfl, by omega, by omega, by omega, by omega, q01 (by have x1 := heap_setCell_same _ (w.heap.size + 1 + 1) 3 _ _ (.int .i64 0) (heap_setCell_same _ (w.heap.size + 1 + 1) 3 _ _ (.int .i64 1) (HX.out)); simpa using x1) (q00 _ _), ((HB.out.setCell (p := ⟨(w.heap.size + 1 + 1), 3, none⟩) (Nat.le_refl _) (.int .i64 1)).setCell (p := ⟨(w.heap.size + 1 + 1), 3, none⟩) (Nat.le_refl _) (.int .i64 0)).alloc (by simp [World.setCell] <;> omega) _⟩, by simp [intOf]⟩
   ·by_cases hpw : sec + WN ≤ 2
    ·go_wp2_with fail
     exact ⟨⟨1, pub, sec + WN, 2, r1, r2, r3, by omega, by go_num, rfl, rfl, by omega, by omega, by omega, by omega, q01 (by have x1 := heap_setCell_same _ (w.heap.size + 1 + 1) 3 _ _ (.int .i64 2) (HX.out); simpa using x1) (q00 _ _), (HB.out.setCell (p := ⟨(w.heap.size + 1 + 1), 3, none⟩) (Nat.le_refl _) (.int .i64 2)).alloc (by simp [World.setCell] <;> omega) _⟩, by simp [intOf]⟩
    ·go_wp2_with fail
     exact ⟨⟨1, pub, sec, 0, r1, r2, r3, by omega, by go_num, rfl, rfl, by omega, by omega, by omega, by omega, q01 (by have x1 := heap_setCell_same _ (w.heap.size + 1 + 1) 3 _ _ (.int .i64 0) (heap_setCell_same _ (w.heap.size + 1 + 1) 3 _ _ (.int .i64 2) (HX.out)); simpa using x1) (q00 _ _), ((HB.out.setCell (p := ⟨(w.heap.size + 1 + 1), 3, none⟩) (Nat.le_refl _) (.int .i64 2)).setCell (p := ⟨(w.heap.size + 1 + 1), 3, none⟩) (Nat.le_refl _) (.int .i64 0)).alloc (by simp [World.setCell] <;> omega) _⟩, by simp [intOf]⟩
  ·obtain ⟨j, u, hj, hju, hu, huc⟩ := pick3 (kOf l 1 / 4)
   go_wp2_with fail
   refine (HKB.out _ (q00 _ _)).mono ?_
   rintro en _ ⟨rfl, rfl⟩
   rcases huc with rfl | rfl | rfl
   ·go_wp2_with fail
    exact ⟨⟨2, pub, sec, r0, 0, r2, r3, by omega, by go_num, rfl, rfl, by omega, by omega, by omega, by omega, q01 (by have x1 := heap_setCell_same _ (w.heap.size + 1 + 1) 4 _ _ (.int .i64 0) (heap_setCell_same _ (w.heap.size + 1 + 1) 4 _ _ (.int .i64 0) (HX.out)); simpa using x1) (q00 _ _), ((HB.out.setCell (p := ⟨(w.heap.size + 1 + 1), 4, none⟩) (Nat.le_refl _) (.int .i64 0)).setCell (p := ⟨(w.heap.size + 1 + 1), 4, none⟩) (Nat.le_refl _) (.int .i64 0)).alloc (by simp [World.setCell] <;> omega) _⟩, by simp [intOf]⟩
   ·by_cases hpw : pub + WN ≤ 2
    ·go_wp2_with fail
     exact ⟨⟨2, pub + WN, sec, r0, 1, r2, r3, by omega, by go_num, rfl, rfl, by omega, by omega, by omega, by omega, q01 (by have x1 := heap_setCell_same _ (w.heap.size + 1 + 1) 4 _ _ (.int .i64 1) (HX.out); simpa using x1) (q00 _ _), (HB.out.setCell (p := ⟨(w.heap.size + 1 + 1), 4, none⟩) (Nat.le_refl _) (.int .i64 1)).alloc (by simp [World.setCell] <;> omega) _⟩, by simp [intOf]⟩
    ·go_wp2_with fail
     exact ⟨⟨2, pub, sec, r0, 0, r2, r3, by omega, by go_num, rfl, rfl, by omega, by omega, by omega, by omega, q01 (by have x1 := heap_setCell_same _ (w.heap.size + 1 + 1) 4 _ _ (.int .i64 0) (heap_setCell_same _ (w.heap.size + 1 + 1) 4 _ _ (.int .i64 1) (HX.out)); simpa using x1) (q00 _ _), ((HB.out.setCell (p := ⟨(w.heap.size + 1 + 1), 4, none⟩) (Nat.le_refl _) (.int .i64 1)).setCell (p := ⟨(w.heap.size + 1 + 1), 4, none⟩) (Nat.le_refl _) (.int .i64 0)).alloc (by simp [World.setCell] <;> omega) _⟩, by simp [intOf]⟩
   ·by_cases hpw : sec + WN ≤ 2
    ·go_wp2_with fail
     exact ⟨⟨2, pub, sec + WN, r0, 2, r2, r3, by omega, by go_num, rfl, rfl, by omega, by omega, by omega, by omega, q01 (by have x1 := heap_setCell_same _ (w.heap.size + 1 + 1) 4 _ _ (.int .i64 2) (HX.out); simpa using x1) (q00 _ _), (HB.out.setCell (p := ⟨(w.heap.size + 1 + 1), 4, none⟩) (Nat.le_refl _) (.int .i64 2)).alloc (by simp [World.setCell] <;> omega) _⟩, by simp [intOf]⟩
    ·go_wp2_with fail
     exact ⟨⟨2, pub, sec, r0, 0, r2, r3, by omega, by go_num, rfl, rfl, by omega, by omega, by omega, by omega, q01 (by have x1 := heap_setCell_same _ (w.heap.size + 1 + 1) 4 _ _ (.int .i64 0) (heap_setCell_same _ (w.heap.size + 1 + 1) 4 _ _ (.int .i64 2) (HX.out)); simpa using x1) (q00 _ _), ((HB.out.setCell (p := ⟨(w.heap.size + 1 + 1), 4, none⟩) (Nat.le_refl _) (.int .i64 2)).setCell (p := ⟨(w.heap.size + 1 + 1), 4, none⟩) (Nat.le_refl _) (.int .i64 0)).alloc (by simp [World.setCell] <;> omega) _⟩, by simp [intOf]⟩
  ·obtain ⟨j, u, hj, hju, hu, huc⟩ := pick3 (kOf l 1 / 16)
   go_wp2_with fail
   refine (HKB.out _ (q00 _ _)).mono ?_
   rintro en _ ⟨rfl, rfl⟩
   rcases huc with rfl | rfl | rfl
   ·go_wp2_with fail
    exact ⟨⟨3, pub, sec, r0, r1, 0, r3, by omega, by go_num, rfl, rfl, by omega, by omega, by omega, by omega, q01 (by have x1 := heap_setCell_same _ (w.heap.size + 1 + 1) 5 _ _ (.int .i64 0) (heap_setCell_same _ (w.heap.size + 1 + 1) 5 _ _ (.int .i64 0) (HX.out)); simpa using x1) (q00 _ _), ((HB.out.setCell (p := ⟨(w.heap.size + 1 + 1), 5, none⟩) (Nat.le_refl _) (.int .i64 0)).setCell (p := ⟨(w.heap.size + 1 + 1), 5, none⟩) (Nat.le_refl _) (.int .i64 0)).alloc (by simp [World.setCell] <;> omega) _⟩, by simp [intOf]⟩
   ·by_cases hpw : pub + WN ≤ 2
    ·go_wp2_with fail
     exact ⟨⟨3, pub + WN, sec, r0, r1, 1, r3, by omega, by go_num, rfl, rfl, by omega, by omega, by omega, by omega, q01 (by have x1 := heap_setCell_same _ (w.heap.size + 1 + 1) 5 _ _ (.int .i64 1) (HX.out); simpa using x1) (q00 _ _), (HB.out.setCell (p := ⟨(w.heap.size + 1 + 1), 5, none⟩) (Nat.le_refl _) (.int .i64 1)).alloc (by simp [World.setCell] <;> omega) _⟩, by simp [intOf]⟩
    ·go_wp2_with fail
     exact ⟨⟨3, pub, sec, r0, r1, 0, r3, by omega, by go_num, rfl, rfl, by omega, by omega, by omega, by omega, q01 (by have x1 := heap_setCell_same _ (w.heap.size + 1 + 1) 5 _ _ (.int .i64 0) (heap_setCell_same _ (w.heap.size + 1 + 1) 5 _ _ (.int .i64 1) (HX.out)); simpa using x1) (q00 _ _), ((HB.out.setCell (p := ⟨(w.heap.size + 1 + 1), 5, none⟩) (Nat.le_refl _) (.int .i64 1)).setCell (p := ⟨(w.heap.size + 1 + 1), 5, none⟩) (Nat.le_refl _) (.int .i64 0)).alloc (by simp [World.setCell] <;> omega) _⟩, by simp [intOf]⟩
   ·by_cases hpw : sec + WN ≤ 2
    ·go_wp2_with fail
     exact ⟨⟨3, pub, sec + WN, r0, r1, 2, r3, by omega, by go_num, rfl, rfl, by omega, by omega, by omega, by omega, q01 (by have x1 := heap_setCell_same _ (w.heap.size + 1 + 1) 5 _ _ (.int .i64 2) (HX.out); simpa using x1) (q00 _ _), (HB.out.setCell (p := ⟨(w.heap.size + 1 + 1), 5, none⟩) (Nat.le_refl _) (.int .i64 2)).alloc (by simp [World.setCell] <;> omega) _⟩, by simp [intOf]⟩
    ·go_wp2_with fail
     exact ⟨⟨3, pub, sec, r0, r1, 0, r3, by omega, by go_num, rfl, rfl, by omega, by omega, by omega, by omega, q01 (by have x1 := heap_setCell_same _ (w.heap.size + 1 + 1) 5 _ _ (.int .i64 0) (heap_setCell_same _ (w.heap.size + 1 + 1) 5 _ _ (.int .i64 2) (HX.out)); simpa using x1) (q00 _ _), ((HB.out.setCell (p := ⟨(w.heap.size + 1 + 1), 5, none⟩) (Nat.le_refl _) (.int .i64 2)).setCell (p := ⟨(w.heap.size + 1 + 1), 5, none⟩) (Nat.le_refl _) (.int .i64 0)).alloc (by simp [World.setCell] <;> omega) _⟩, by simp [intOf]⟩
  ·obtain ⟨j, u, hj, hju, hu, huc⟩ := pick3 (kOf l 1 / 64)
   go_wp2_with fail
   refine (HKB.out _ (q00 _ _)).mono ?_
   rintro en _ ⟨rfl, rfl⟩
   rcases huc with rfl | rfl | rfl
   ·go_wp2_with fail
    exact ⟨⟨4, pub, sec, r0, r1, r2, 0, by omega, by go_num, rfl, rfl, by omega, by omega, by omega, by omega, q01 (by have x1 := heap_setCell_same _ (w.heap.size + 1 + 1) 6 _ _ (.int .i64 0) (heap_setCell_same _ (w.heap.size + 1 + 1) 6 _ _ (.int .i64 0) (HX.out)); simpa using x1) (q00 _ _), ((HB.out.setCell (p := ⟨(w.heap.size + 1 + 1), 6, none⟩) (Nat.le_refl _) (.int .i64 0)).setCell (p := ⟨(w.heap.size + 1 + 1), 6, none⟩) (Nat.le_refl _) (.int .i64 0)).alloc (by simp [World.setCell] <;> omega) _⟩, by simp [intOf]⟩
   ·by_cases hpw : pub + WN ≤ 2
    ·go_wp2_with fail
     exact ⟨⟨4, pub + WN, sec, r0, r1, r2, 1, by omega, by go_num, rfl, rfl, by omega, by omega, by omega, by omega, q01 (by have x1 := heap_setCell_same _ (w.heap.size + 1 + 1) 6 _ _ (.int .i64 1) (HX.out); simpa using x1) (q00 _ _), (HB.out.setCell (p := ⟨(w.heap.size + 1 + 1), 6, none⟩) (Nat.le_refl _) (.int .i64 1)).alloc (by simp [World.setCell] <;> omega) _⟩, by simp [intOf]⟩
    ·go_wp2_with fail
     exact ⟨⟨4, pub, sec, r0, r1, r2, 0, by omega, by go_num, rfl, rfl, by omega, by omega, by omega, by omega, q01 (by have x1 := heap_setCell_same _ (w.heap.size + 1 + 1) 6 _ _ (.int .i64 0) (heap_setCell_same _ (w.heap.size + 1 + 1) 6 _ _ (.int .i64 1) (HX.out)); simpa using x1) (q00 _ _), ((HB.out.setCell (p := ⟨(w.heap.size + 1 + 1), 6, none⟩) (Nat.le_refl _) (.int .i64 1)).setCell (p := ⟨(w.heap.size + 1 + 1), 6, none⟩) (Nat.le_refl _) (.int .i64 0)).alloc (by simp [World.setCell] <;> omega) _⟩, by simp [intOf]⟩
   ·by_cases hpw : sec + WN ≤ 2
    ·go_wp2_with fail
     exact ⟨⟨4, pub, sec + WN, r0, r1, r2, 2, by omega, by go_num, rfl, rfl, by omega, by omega, by omega, by omega, q01 (by have x1 := heap_setCell_same _ (w.heap.size + 1 + 1) 6 _ _ (.int .i64 2) (HX.out); simpa using x1) (q00 _ _), (HB.out.setCell (p := ⟨(w.heap.size + 1 + 1), 6, none⟩) (Nat.le_refl _) (.int .i64 2)).alloc (by simp [World.setCell] <;> omega) _⟩, by simp [intOf]⟩
    ·go_wp2_with fail
     exact ⟨⟨4, pub, sec, r0, r1, r2, 0, by omega, by go_num, rfl, rfl, by omega, by omega, by omega, by omega, q01 (by have x1 := heap_setCell_same _ (w.heap.size + 1 + 1) 6 _ _ (.int .i64 0) (heap_setCell_same _ (w.heap.size + 1 + 1) 6 _ _ (.int .i64 2) (HX.out)); simpa using x1) (q00 _ _), ((HB.out.setCell (p := ⟨(w.heap.size + 1 + 1), 6, none⟩) (Nat.le_refl _) (.int .i64 2)).setCell (p := ⟨(w.heap.size + 1 + 1), 6, none⟩) (Nat.le_refl _) (.int .i64 0)).alloc (by simp [World.setCell] <;> omega) _⟩, by simp [intOf]⟩
  ·go_upto_if 81 with (fail)
   refine (HKB.out wr (Below.refl _ _)).mono ?_
   rintro en _ ⟨rfl, rfl⟩
   obtain ⟨M8, hM8, hM8a, hM8b⟩ := mask3 (kOf l 1 / 256)
   go_upto_if 81 with (fail)
   go_cut [] (fun wx => ∃ (mv : Value) (ml : List MemE), wx.heap[w.heap.size + 1 + 1]? = some (.cells #[.int .i64 WN, .int .i64 win, .int .i64 6, .int .i64 r0, .int .i64 r1, .int .i64 r2, .int .i64 r3, mv, .slice none 0 0, .slice none 0 0] 33 (0, 0)) ∧ OwnM wx (w.heap.size + 3) mv ml ∧ ml.length ≤ 1 ∧ (∀ e ∈ ml, 1 ≤ e.n ∧ e.n ≤ 2) ∧ Below (w.heap.size + 1 + 1) ((w.alloc (.cells #[.slice AL l.length cL] 22)).alloc (.cells #[.int .i64 0, .int .i64 0, .int .i64 0, .int .i64 0, .int .i64 0, .int .i64 0, .int .i64 0, .slice none 0 0, .slice none 0 0, .slice none 0 0] 33)) wx)
   case first =>
    by_cases h8 : M8 > 0
    ·go_wp2_with (at_builtin; go_must (refine append_mem _ rfl (.tmp 83) (.tmp 85) rfl (w.heap.size + 3) (v := .slice none 0 0) rfl OwnM.nil _ ⟨⟨#[109]⟩, false, 1⟩ rfl (q06 (by simp)) ?c1 ?c2 ?_))
     case c1 => simp
     case c2 => simp; omega
     intro v6 w6 h6 hg6 b6
     obtain ⟨g6, cap6, e6, hg6b, hg6l⟩ := World.ownsRow.form h6 (by simp)
     rw [e6]
     have HO := Kept.mk (e6 ▸ h6)
     have hx6 := (b6.block (w.heap.size + 1 + 1) (by omega)).trans (q01 HX.out (q00 wr (.cells #[.string ⟨#[109]⟩, .bool false, .int .i64 1] 49)))
     have HX6 := Kept.mk hx6
     have HB6 := Kept.mk ((HB.out.alloc (by omega) (.cells #[.string ⟨#[109]⟩, .bool false, .int .i64 1] 49)).trans (b6.mono (by omega)))
     have Y6 := fun j => cell_of_row w6 (w.heap.size + 1 + 1) j _ _ _ hx6
     have F6 := fun j => frozen_of_row w6 (w.heap.size + 1 + 1) j _ _ hx6
     clear h6 hg6 b6 Y4 F4 Y4a F4a hx6
     go_upto_region 15 with (fail)
     have hx7 := heap_setCell_same w6 (w.heap.size + 1 + 1) 7 _ _ (.slice (some ⟨g6, 0, none⟩) 1 cap6) HX6.out
     simp only [List.setIfInBounds_toArray, List.set_cons_zero, List.set_cons_succ] at hx7
     have hb7 := HB6.out.setCell (p := ⟨w.heap.size + 1 + 1, 7, none⟩) (Nat.le_refl _) (.slice (some ⟨g6, 0, none⟩) 1 cap6)
     have ho7 : OwnM (w6.setCell ⟨w.heap.size + 1 + 1, 7, none⟩ (.slice (some ⟨g6, 0, none⟩) 1 cap6)) (w.heap.size + 3) (.slice (some ⟨g6, 0, none⟩) 1 cap6) [⟨⟨#[109]⟩, false, 1⟩] := own_far HO.out (p := ⟨w.heap.size + 1 + 1, 7, none⟩) (by show w.heap.size + 1 + 1 < _; omega) _
     have hl7 : g6 < (w6.setCell ⟨w.heap.size + 1 + 1, 7, none⟩ (.slice (some ⟨g6, 0, none⟩) 1 cap6)).heap.size := by simpa [World.setCell] using hg6l
     clear Y6 F6 HX6 HB6 HO
     generalize w6.setCell ⟨w.heap.size + 1 + 1, 7, none⟩ (.slice (some ⟨g6, 0, none⟩) 1 cap6) = w7 at *
     have HX7 := Kept.mk hx7
     have HB7 := Kept.mk hb7
     have HO7 := Kept.mk ho7
     have Y7 := fun j => cell_of_row w7 (w.heap.size + 1 + 1) j _ _ _ hx7
     have z2 := World.ownsRow.cellAt ho7 2 (by simp)
     have f2 := World.ownsRow.frozenAt ho7 2
     have z2 : w7.cell? ⟨g6, 2, none⟩ = some (.int .i64 1) := z2
     clear hx7 hb7 ho7
     have leaf7 : ∃ (mv : Value) (ml : List MemE), w7.heap[w.heap.size + 1 + 1]? = some (.cells #[.int .i64 WN, .int .i64 win, .int .i64 6, .int .i64 r0, .int .i64 r1, .int .i64 r2, .int .i64 r3, mv, .slice none 0 0, .slice none 0 0] 33 (0, 0)) ∧ OwnM w7 (w.heap.size + 3) mv ml ∧ ml.length ≤ 1 ∧ (∀ e ∈ ml, 1 ≤ e.n ∧ e.n ≤ 2) ∧ Below (w.heap.size + 1 + 1) ((w.alloc (.cells #[.slice AL l.length cL] 22)).alloc (.cells #[.int .i64 0, .int .i64 0, .int .i64 0, .int .i64 0, .int .i64 0, .int .i64 0, .int .i64 0, .slice none 0 0, .slice none 0 0, .slice none 0 0] 33)) w7 := ⟨_, _, HX7.out, HO7.out, by simp, by simp, HB7.out⟩
     have LEAF := Kept.mk leaf7
     clear leaf7
     rcases hWN with rfl | rfl
     ·obtain ⟨M10, hM10, hM10a, hM10b⟩ := mask3 (kOf l 1 / 1024)
      by_cases h10 : M10 = 0
      ·subst h10
       go_wp2_with fail
       refine (HK.out 1 w7 (by omega) (by omega) (((Below.refl _ _).alloc (by simp) _).trans (HB7.out.mono (by simp)))).mono ?_
       rintro en _ ⟨rfl, rfl⟩
       go_wp2_with fail
       go_meet
       have hst := World.ownsRow.stored HO7.out 2 (.int .i64 2)
       exact ⟨_, [⟨⟨#[109]⟩, false, 2⟩], (hst.2.block (w.heap.size + 1 + 1) (Array.getElem?_eq_some_iff.1 HX7.out).1 (by intro h; injection h with h; omega)).trans HX7.out, hst.1, by simp, by simp, HB7.out.setCell (p := ⟨g6, 2, none⟩) (by show _ ≤ g6; omega) _⟩
      ·go_wp2_with fail
       refine (HK.out 1 w7 (by omega) (by omega) (((Below.refl _ _).alloc (by simp) _).trans (HB7.out.mono (by simp)))).mono ?_
       rintro en _ ⟨rfl, rfl⟩
       have h10' : (M10 == 0) = false := by simp [h10]
       go_wp2_with fail
       go_meet
       exact LEAF.out
     ·go_wp2_with fail
      go_meet
      exact LEAF.out
    ·go_wp2_with fail
     go_meet
     exact ⟨_, [], HX.out, OwnM.nil, by simp, by simp, HB.out⟩
   case rest =>
    obtain ⟨mv, ml, hx, hm, hml, hmn, hb⟩ := hcut
    obtain ⟨mA, mc, rfl, hmc, hmr⟩ := q2F hm
    have HX := Kept.mk hx
    have HM := Kept.mk hm
    have HB := Kept.mk hb
    have HKC := Kept.mk (HK.out 1 wc (by omega) (by omega) (((Below.refl _ _).alloc (by simp) _).trans (hb.mono (by simp))))
    have Y4 := fun j => cell_of_row wc (w.heap.size + 1 + 1) j _ _ _ hx
    have F4 := fun j => frozen_of_row wc (w.heap.size + 1 + 1) j _ _ hx
    clear hx hb hmr HKB Y4a F4a
    obtain ⟨M12, hM12, hM12a, hM12b⟩ := mask3 (kOf l 1 / 4096)
    go_upto_region 17 with (fail)
    go_cut [127] (fun v wx => ∃ b : Bool, v = .bool b ∧ wx = wc)
    case first =>
     have hdone : ∀ b : Bool, ∃ b' : Bool, Value.bool b = .bool b' ∧ wc = wc := fun b => ⟨b, rfl, rfl⟩
     by_cases h12 : M12 > 0
     ·by_cases hsw : sec + WN ≤ 3
      ·cases ml with
       | nil =>
        go_wp2_with fail
        refine HKC.out.mono ?_
        rintro en _ ⟨rfl, rfl⟩
        go_wp2_with fail
        go_meet
        exact ⟨_, rfl, rfl⟩
       | cons e t =>
        have ht : t = [] := by cases t with | nil => rfl | cons a b => simp only [List.length_cons] at hml; omega
        subst ht
        obtain ⟨g6, cap6, e6, hg6b, hg6l⟩ := World.ownsRow.form hm (by simp)
        injection e6 with e6a e6b e6c
        subst e6a e6c
        have z2 : wc.cell? ⟨g6, 2, none⟩ = some (.int .i64 e.n) := World.ownsRow.cellAt hm 2 (by simp)
        go_wp2_with fail
        refine HKC.out.mono ?_
        rintro en _ ⟨rfl, rfl⟩
        go_wp2_with fail
        all_goals
         go_meet
         exact ⟨_, rfl, rfl⟩
      ·go_wp2_with fail
       refine HKC.out.mono ?_
       rintro en _ ⟨rfl, rfl⟩
       go_wp2_with fail
       go_meet
       exact ⟨_, rfl, rfl⟩
     ·go_wp2_with fail
      refine HKC.out.mono ?_
      rintro en _ ⟨rfl, rfl⟩
      go_wp2_with fail
      go_meet
      exact ⟨_, rfl, rfl⟩
    case rest =>
     obtain ⟨b, rfl, rfl⟩ := hcut
     go_upto_if 127 with (fail)
     go_cut [] (fun wx => ∃ (mv : Value) (ml : List MemE), wx.heap[w.heap.size + 1 + 1]? = some (.cells #[.int .i64 WN, .int .i64 win, .int .i64 6, .int .i64 r0, .int .i64 r1, .int .i64 r2, .int .i64 r3, mv, .slice none 0 0, .slice none 0 0] 33 (0, 0)) ∧ OwnM wx (w.heap.size + 3) mv ml ∧ ml.length ≤ 2 ∧ (∀ e ∈ ml, 1 ≤ e.n ∧ e.n ≤ 2) ∧ Below (w.heap.size + 1 + 1) ((w.alloc (.cells #[.slice AL l.length cL] 22)).alloc (.cells #[.int .i64 0, .int .i64 0, .int .i64 0, .int .i64 0, .int .i64 0, .int .i64 0, .int .i64 0, .slice none 0 0, .slice none 0 0, .slice none 0 0] 33)) wx)
     case first =>
      cases b with
      | false =>
       go_wp2_with fail
       go_meet
       exact ⟨_, ml, HX.out, HM.out, by omega, hmn, HB.out⟩
      | true =>
       go_wp2_with (at_builtin; go_must (refine append_mem _ rfl (.tmp 129) (.tmp 131) rfl (w.heap.size + 3) (v := .slice mA ml.length mc) (l := ml) rfl (HM.out.past (q00 _ _)) _ ⟨⟨#[115]⟩, true, 1⟩ rfl (q06 (by simp)) ?c1 ?c2 ?_))
       case c1 => omega
       case c2 => have := (Array.getElem?_eq_some_iff.1 HX.out).1; simp; omega
       intro v6 w6 h6 hg6 b6
       obtain ⟨g6, cap6, e6, hg6b, hg6l⟩ := World.ownsRow.form h6 (by simp)
       rw [e6]
       have HO := Kept.mk (e6 ▸ h6)
       have hx6 := (b6.block (w.heap.size + 1 + 1) (by omega)).trans (q01 HX.out (q00 _ (.cells #[.string ⟨#[115]⟩, .bool true, .int .i64 1] 49)))
       have HX6 := Kept.mk hx6
       have HB6 := Kept.mk ((HB.out.alloc (Nat.le_of_lt (Array.getElem?_eq_some_iff.1 HX.out).1) (.cells #[.string ⟨#[115]⟩, .bool true, .int .i64 1] 49)).trans (b6.mono (by omega)))
       have Y6 := fun j => cell_of_row w6 (w.heap.size + 1 + 1) j _ _ _ hx6
       have F6 := fun j => frozen_of_row w6 (w.heap.size + 1 + 1) j _ _ hx6
       clear h6 hg6 b6 Y4 F4 hx6
       go_wp2_with fail
       go_meet
       have hx7 := heap_setCell_same w6 (w.heap.size + 1 + 1) 7 _ _ (.slice (some ⟨g6, 0, none⟩) (ml.length + 1) cap6) HX6.out
       simp only [List.setIfInBounds_toArray, List.set_cons_zero, List.set_cons_succ] at hx7
       exact ⟨_, ml ++ [⟨⟨#[115]⟩, true, 1⟩], by simpa using hx7, by simpa using (show OwnM _ (w.heap.size + 3) _ _ from own_far HO.out (p := ⟨w.heap.size + 1 + 1, 7, none⟩) (by show w.heap.size + 1 + 1 < _; omega) _), by simp; omega, fun e he => by
        rcases List.mem_append.1 he with he | he
        ·exact hmn e he
        ·rw [List.mem_singleton] at he; subst he; exact ⟨by show (1 : Int) ≤ 1; omega, by show (1 : Int) ≤ 2; omega⟩, HB6.out.setCell (p := ⟨w.heap.size + 1 + 1, 7, none⟩) (Nat.le_refl _) _⟩
     case rest =>
      clear HX HM HB HKC Y4 F4 hm hml hmn hmc
      obtain ⟨mv, ml, hx, hm, hml, hmn, hb⟩ := hcut
      have HKC := Kept.mk (HK.out 0 wc (by omega) (by omega) (((Below.refl _ _).alloc (by simp) _).trans (hb.mono (by simp))))
      have HX := Kept.mk hx
      have HM := Kept.mk hm
      have HB := Kept.mk hb
      have hgl := (Array.getElem?_eq_some_iff.1 hx).1
      have HMK := Kept.mk (show MemOk ml from ⟨hml, hmn⟩)
      clear hx hb hm hml hmn
      obtain ⟨M5, hM5, hM5a, hM5b⟩ := mask3 (kOf l 0 / 4096)
      go_wp2_with fail
      refine HKC.out.mono ?_
      rintro en _ ⟨rfl, rfl⟩
      obtain ⟨nn, hnn⟩ : ∃ nn : Nat, M5 + 2 = (nn : Int) := ⟨(M5 + 2).toNat, by omega⟩
      have hnn0 : 2 ≤ nn := by omega
      have hnn1 : nn ≤ 5 := by omega
      go_wp2_with fail
      clear hM5 hM5a hM5b hnn HKC
      go_loopw [9] (fun s9 wr2 => ∃ (k nl : Nat) (lv : Value), k ≤ nn + 1 ∧ s9 = .int .i64 (k : Int) ∧ nl ≤ k ∧ (∃ s : Sl, lv = .slice s.A s.n s.c) ∧ (∃ xs : List Value, wr2.ownsRow (w.heap.size + 3) 101 2 lv nl xs) ∧
       wr2.heap[w.heap.size + 1 + 1]? = some (.cells (Prg.cs ⟨WN, win, 6, r0, r1, r2, r3, mv, lv, none, 0, 0⟩).toArray 33 (0, 0)) ∧ OwnM wr2 (w.heap.size + 3) mv ml ∧ Below (w.heap.size + 1 + 1) ((w.alloc (.cells #[.slice AL l.length cL] 22)).alloc (.cells #[.int .i64 0, .int .i64 0, .int .i64 0, .int .i64 0, .int .i64 0, .int .i64 0, .int .i64 0, .slice none 0 0, .slice none 0 0, .slice none 0 0] 33)) wr2 ∧ w.heap.size + 3 ≤ wr2.heap.size) (fun s9 _ => nn + 1 - (intOf s9).toNat)
      case atStart => exact ⟨0, 0, .slice none 0 0, by omega, rfl, Nat.le_refl _, ⟨Sl.none, rfl⟩, ⟨[], World.ownsRow_nil _ _ _ _⟩, HX.out, HM.out, HB.out, by omega⟩
      case round =>
       clear HX HM HB
       obtain ⟨k, nl, lv, hk, rfl, hnl, hls, hlo, hx, hm, hb, hsz⟩ := hrel
       have HX := Kept.mk hx
       have HM := Kept.mk hm
       have HB := Kept.mk hb
       have HLS := Kept.mk hls
       have HLO := Kept.mk hlo
       clear hx hm hb hls hlo
       by_cases hkn : k ≤ nn
       ·have hki : (k : Int) ≤ (nn : Int) := by omega
        go_wp2_with fail
        refine make_label wr (w.heap.size + 1 + 1) (w.heap.size + 3) ⟨WN, win, 6, r0, r1, r2, r3, mv, lv, none, 0, 0⟩ nl (k : Int) (by omega) (by omega) HX (by omega) hsz HLO HLS _ ?_
        intros
        rename_i w9 s9 hown hx9 hmem hbel hsz9
        have HX9 := Kept.mk hx9
        have HO9 := Kept.mk hown
        have HM9 := Kept.mk (hmem _ _ _ HM.out)
        have HB9 := Kept.mk (HB.out.trans hbel)
        clear hx9 hown hmem hbel
        go_wp2_with fail
        exact ⟨⟨k + 1, nl + 1, _, by omega, by go_num, by omega, ⟨s9, rfl⟩, HO9.out, HX9.out, HM9.out, HB9.out, hsz9⟩, by simp [intOf] <;> omega⟩
       ·have hki : ¬ (k : Int) ≤ (nn : Int) := by omega
        go_wp2_with fail
        clear HLO hnl hkn hki hk
        obtain ⟨lA, rfl⟩ := HLS.out
        go_loopw [10] (fun s10 wr3 => ∃ (k : Nat) (s : Sl), k ≤ nn ∧ s10 = .int .i64 (k : Int) ∧ OwnN wr3 (w.heap.size + 3) (.slice s.A s.n s.c) k (nn : Int) ∧
         wr3.heap[w.heap.size + 1 + 1]? = some (.cells (Prg.cs ⟨WN, win, 6, r0, r1, r2, r3, mv, .slice lA.A lA.n lA.c, s.A, s.n, s.c⟩).toArray 33 (0, 0)) ∧ OwnM wr3 (w.heap.size + 3) mv ml ∧ Below (w.heap.size + 1 + 1) ((w.alloc (.cells #[.slice AL l.length cL] 22)).alloc (.cells #[.int .i64 0, .int .i64 0, .int .i64 0, .int .i64 0, .int .i64 0, .int .i64 0, .int .i64 0, .slice none 0 0, .slice none 0 0, .slice none 0 0] 33)) wr3 ∧ w.heap.size + 3 ≤ wr3.heap.size) (fun s10 _ => nn - (intOf s10).toNat)
        case atStart => exact ⟨0, Sl.none, by omega, rfl, ⟨[], rfl, by simp, World.ownsRow_nil _ _ _ _⟩, HX.out, HM.out, HB.out, by omega⟩
        case round =>
         clear HX HM HB hsz
         obtain ⟨k, s, hk, rfl, hn, hx, hm, hb, hsz⟩ := hrel
         have HX := Kept.mk hx
         have HM := Kept.mk hm
         have HB := Kept.mk hb
         have HN := Kept.mk hn
         have HWB := Kept.mk ((((q00 w (.cells #[.slice AL l.length cL] 22)).alloc (by simp) (.cells #[.int .i64 0, .int .i64 0, .int .i64 0, .int .i64 0, .int .i64 0, .int .i64 0, .int .i64 0, .slice none 0 0, .slice none 0 0, .slice none 0 0] 33)).trans (hb.mono (by omega))))
         have HX1 := Kept.mk ((hb.cell (p := ⟨w.heap.size, 0, none⟩) (by show w.heap.size < _; omega)).trans (cell_of_row _ w.heap.size 0 _ _ _ ((heap_alloc_old _ _ (by simp)).trans (heap_alloc_new w (.cells #[.slice AL l.length cL] 22)))))
         have HXT := Kept.mk ((hb.block (w.heap.size + 1) (by omega)).trans (heap_alloc2_new w (.cells #[.slice AL l.length cL] 22) (.cells #[.int .i64 0, .int .i64 0, .int .i64 0, .int .i64 0, .int .i64 0, .int .i64 0, .int .i64 0, .slice none 0 0, .slice none 0 0, .slice none 0 0] 33)))
         clear hx hm hb hn
         by_cases hkn : k < nn
         ·have hki : (k : Int) < (nn : Int) := by omega
          go_wp2_with fail
          refine make_ins wr (w.heap.size + 1 + 1) (w.heap.size + 3) ⟨WN, win, 6, r0, r1, r2, r3, mv, .slice lA.A lA.n lA.c, s.A, s.n, s.c⟩ w.heap.size AL l cL k k (nn : Int) (by omega) (by omega) (by omega) (by omega) ⟨HX1.out⟩ ⟨fun w1 hb1 => HL.out.past (HWB.out.trans (hb1.mono (by omega)))⟩ HX (by omega) hsz HN ⟨s, rfl⟩ _ ?_
          intros
          rename_i w9 s9 hown hx9 hmem hbel hsz9
          have HX9 := Kept.mk hx9
          have HO9 := Kept.mk hown
          have HM9 := Kept.mk (hmem _ _ _ HM.out)
          have HB9 := Kept.mk (HB.out.trans hbel)
          clear hx9 hown hmem hbel
          go_wp2_with fail
          first
          | exact ⟨⟨k + 1, by omega, by go_num, s9, HO9.out, HX9.out, HM9.out, HB9.out⟩, by simp [intOf] <;> omega⟩
          | exact ⟨⟨k + 1, by omega, by go_num, s9, HO9.out, HX9.out, HM9.out, HB9.out, hsz9⟩, by simp [intOf] <;> omega⟩
          | exact ⟨⟨k + 1, s9, by omega, by go_num, HO9.out, HX9.out, HM9.out, HB9.out, hsz9⟩, by simp [intOf] <;> omega⟩
          | exact ⟨⟨k + 1, s9, by omega, by go_num, HO9.out, HX9.out, HM9.out, HB9.out⟩, by simp [intOf] <;> omega⟩
         ·obtain rfl : nn = k := by omega
          have hki : ¬ (nn : Int) < (nn : Int) := by omega
          obtain ⟨il, hil, hok, hown⟩ := HN.out
          obtain ⟨mA, mc, rfl, hmc, -⟩ := q2F HM.out
          obtain ⟨sA, sN, sC⟩ := s
          have HOW := Kept.mk hown
          have Y4 := fun j => cell_of_row wr (w.heap.size + 1 + 1) j _ _ _ HX.out
          have Y2 := fun j => cell_of_row wr (w.heap.size + 1) j _ _ _ HXT.out
          have F2 := fun j => frozen_of_row wr (w.heap.size + 1) j _ _ HXT.out
          simp only [Prg.cs] at Y4
          clear hown hkn hk
          go_wp2_with fail
          have x4 := prg_set ⟨0, 0, 0, 0, 0, 0, 0, .slice none 0 0, .slice none 0 0, none, 0, 0⟩ ⟨WN, win, 6, r0, r1, r2, r3, .slice mA ml.length mc, .slice lA.A lA.n lA.c, sA, sN, sC⟩ HXT.out
          have hg := prg_grown wr (w.heap.size + 1) ⟨WN, win, 6, r0, r1, r2, r3, .slice mA ml.length mc, .slice lA.A lA.n lA.c, sA, sN, sC⟩
          have wb := prg_below (g := w.heap.size + 1) ⟨WN, win, 6, r0, r1, r2, r3, .slice mA ml.length mc, .slice lA.A lA.n lA.c, sA, sN, sC⟩ HWB.out (by omega)
          have oN := own_grown HOW.out hg (by omega)
          have oM := own_grown HM.out hg (by omega)
          obtain ⟨A', c', e', hc', hr'⟩ := q2F oN
          injection e' with e1 e2 e3
          subst e1 e2 e3
          obtain ⟨A2, c2, e2', hc2, hr2⟩ := q2F oM
          injection e2' with e21 e22 e23
          subst e21 e23
          dsimp only at x4 wb hr' hr2
          refine q0C _ [Prg.v ⟨WN, win, 6, r0, r1, r2, r3, .slice mA ml.length mc, .slice lA.A lA.n lA.c, sA, sN, sC⟩] Try.results23 (.cons (.cell (cs := Prg.cs ⟨WN, win, 6, r0, r1, r2, r3, .slice mA ml.length mc, .slice lA.A lA.n lA.c, sA, sN, sC⟩) (b := w.heap.size + 1) (off := 0) rfl rfl (q05 x4) Try.underlying33 rfl (by kernel_rfl)) .nil) rfl ⟨⟨WN, win, 6, r0, r1, r2, r3, .slice mA ml.length mc, .slice lA.A lA.n lA.c, sA, sN, sC⟩, il, ml, rfl, ⟨⟨hil.symm, by first | (show sN ≤ 1000; omega) | (show nn ≤ 1000; omega), ?_⟩, hWN, hWI, by rw [hil]; exact hok, by omega, ⟨mA, mc, rfl, hmc, hr2⟩, HMK.out, ⟨_, _, _, rfl⟩⟩, wb⟩
          unfold RdN
          rw [hil]
          exact hr'
end
end Go.Proofs.Ytchldbkjapnlcaa
