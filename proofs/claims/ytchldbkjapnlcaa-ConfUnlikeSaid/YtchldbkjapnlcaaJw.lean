/- The reader of numbers, layer 13: what it reads, and that the code reads so. The machine of bytes, layer 13: what bytes are a machine, and that the code finds it. -/
import Derived.Test.YtchldbkjapnlcaaJd
import Derived.Test.YtchldbkjapnlcaaJv
import Derived.Test.YtchldbkjapnlcaaJc
import Derived.Test.YtchldbkjapnlcaaJi
import Derived.Test.YtchldbkjapnlcaaJe
import Derived.BigRegion
set_option linter.unusedVariables false
set_option linter.unusedSimpArgs false
section
namespace Go.Proofs.Ytchldbkjapnlcaa
open Go.RowKit

/-! ### What it reads -/
structure Rdr where
 l : List Int
 bad : Bool
def Rdr.num (r : Rdr) : Int × Rdr := match r.l with | [] => (0, ⟨[], true⟩) | x :: t => (x, ⟨t, r.bad⟩)
def Rdr.count (r : Rdr) : Int × Rdr := if r.num.1 < 0 ∨ (r.num.2.l.length : Int) < r.num.1 then (0, ⟨r.num.2.l, true⟩) else r.num
def Rdr.nums (r : Rdr) : List Int × Rdr := (r.count.2.l.take r.count.1.toNat, ⟨r.count.2.l.drop r.count.1.toNat, r.count.2.bad⟩)
def Rdr.flag (r : Rdr) : Bool × Rdr := (r.num.1 == 1, ⟨r.num.2.l, r.num.2.bad || (r.num.1 != 0 && r.num.1 != 1)⟩)
def Rdr.n1 (r : Rdr) : Rdr := r.num.2
def Rdr.n2 (r : Rdr) : Rdr := r.n1.num.2
def Rdr.n3 (r : Rdr) : Rdr := r.n2.num.2
def Rdr.n4 (r : Rdr) : Rdr := r.n3.num.2
def Rdr.n5 (r : Rdr) : Rdr := r.n4.num.2
def Rdr.n6 (r : Rdr) : Rdr := r.n5.flag.2
def Rdr.n7 (r : Rdr) : Rdr := r.n6.flag.2
def Rdr.n8 (r : Rdr) : Rdr := r.n7.flag.2
def Rdr.ent (r : Rdr) : Ent × Rdr := (⟨r.num.1, r.n1.num.1, r.n2.num.1, r.n3.num.1, r.n4.num.1, r.n5.flag.1, r.n6.flag.1, r.n7.flag.1⟩, r.n8)
theorem Rdr.count_le (r : Rdr) : 0 ≤ r.count.1 ∧ r.count.1 ≤ r.count.2.l.length := by
 unfold Rdr.count
 split
 ·exact ⟨Int.le_refl _, by show (0 : Int) ≤ _; omega⟩
 ·omega
theorem Rdr.num_len (r : Rdr) : r.num.2.l.length ≤ r.l.length := by
 unfold Rdr.num
 split
 ·simp
 ·rename_i x t h; rw [h]; simp
theorem Rdr.count_len (r : Rdr) : r.count.2.l.length ≤ r.l.length := by
 unfold Rdr.count
 split
 ·exact r.num_len
 ·exact r.num_len
theorem Rdr.nums_len (r : Rdr) : r.nums.2.l.length ≤ r.l.length := by
 unfold Rdr.nums
 have := r.count_len
 simp only [List.length_drop]
 omega
theorem Rdr.flag_len (r : Rdr) : r.flag.2.l.length ≤ r.l.length := r.num_len
theorem Rdr.ent_len (r : Rdr) : r.ent.2.l.length ≤ r.l.length :=
 Nat.le_trans (Rdr.flag_len r.n7) (Nat.le_trans (Rdr.flag_len r.n6) (Nat.le_trans (Rdr.flag_len r.n5) (Nat.le_trans (Rdr.num_len r.n4) (Nat.le_trans (Rdr.num_len r.n3) (Nat.le_trans (Rdr.num_len r.n2) (Nat.le_trans (Rdr.num_len r.n1) r.num_len))))))
/-! ### How it lies in memory -/
def RdrAt (w : World) (g : Nat) (r : Rdr) : Prop := ∃ (A : Option Addr) (c : Nat), r.l.length ≤ c ∧ w.heap[g]? = some (.cells #[.slice A r.l.length c, .bool r.bad] 134 (0, 0)) ∧ Reads w g 1 A r.l.length (intCs r.l)
theorem RdrAt.lt {w : World} {g : Nat} {r : Rdr} (h : RdrAt w g r) : g < w.heap.size := by
 obtain ⟨A, c, _, hx, _⟩ := h
 exact (Array.getElem?_eq_some_iff.1 hx).1
theorem RdrAt.past {w w' : World} {g B : Nat} {r : Rdr} (h : RdrAt w g r) (hb : Below B w w') (hg : g < B) : RdrAt w' g r := by
 obtain ⟨A, c, hc, hx, hr⟩ := h
 exact ⟨A, c, hc, (hb.block g hg).trans hx, hr.keep fun p hp => hb.cell (by omega)⟩
theorem RdrAt.new {w : World} {A : Option Addr} {c : Nat} {l : List Int} (hc : l.length ≤ c) (h : RdI w A l) (bad : Bool) : RdrAt (w.alloc (.cells #[.slice A l.length c, .bool bad] 134)) w.heap.size ⟨l, bad⟩ :=
 ⟨A, c, hc, heap_alloc_new w _, Reads.keep h fun p hp => (below_alloc_self w _).cell hp⟩
theorem grown_trans {w0 w1 w2 : World} {g : Nat} (h1 : w0.grownBy w1 (some g)) (h2 : w1.grownBy w2 (some g)) : w0.grownBy w2 (some g) :=
 ⟨h2.os.trans h1.os, h2.tape.trans h1.tape, h2.output.trans h1.output, Nat.le_trans h1.size h2.size, fun k hk hn => (h2.block k (by have := h1.size; omega) hn).trans (h1.block k hk hn)⟩
theorem grown_past {w0 w1 w2 : World} {g : Nat} (h1 : w0.grownBy w1 (some g)) (h2 : Below w0.heap.size w1 w2) : w0.grownBy w2 (some g) :=
 ⟨h2.os.trans h1.os, h2.tape.trans h1.tape, h2.output.trans h1.output, Nat.le_trans h1.size h2.size, fun k hk hn => (h2.block k hk).trans (h1.block k hk hn)⟩
theorem grown_then {w0 w1 w2 : World} {g : Nat} (h1 : Below w0.heap.size w0 w1) (h2 : w1.grownBy w2 (some g)) : w0.grownBy w2 (some g) := grown_trans (grown_below h1 _) h2
theorem OwnI.grownG {w w' : World} {B g : Nat} {v : Value} {l : List Int} (h : OwnI w B v l) (hg : w.grownBy w' (some g)) (hlt : g < B) : OwnI w' B v l :=
 World.ownsRow.kept h hg (by
  cases hv : v.ownBlock with
  | none => exact .inl rfl
  | some k => exact .inr (fun e => by injection e with e; have := (World.ownsRow.lt h k hv).1; omega))
theorem RdrAt.read {w : World} {g : Nat} {x : Int} {t : List Int} {bad : Bool} {A : Option Addr} {c : Nat} (hc : t.length + 1 ≤ c) (hx : w.heap[g]? = some (.cells #[.slice A (t.length + 1) c, .bool bad] 134 (0, 0))) (hr : Reads w g 1 A (t.length + 1) (intCs (x :: t))) :
  RdrAt (w.setCell ⟨g, 0, none⟩ (.slice (if c = 1 then A else A.map (·.add 1)) t.length (c - 1))) g ⟨t, bad⟩ := by
 refine ⟨if c = 1 then A else A.map (·.add 1), c - 1, by show t.length ≤ c - 1; omega, heap_setCell_same w g 0 #[.slice A (t.length + 1) c, .bool bad] 134 (.slice (if c = 1 then A else A.map (·.add 1)) t.length (c - 1)) hx, ?_⟩
 have hd : Reads w g 1 (if c = 1 then A else A.map (·.add 1)) t.length (intCs t) := by
  refine ⟨by rw [intCs_length]; omega, fun hn => ?_⟩
  obtain ⟨ad, rfl, hs, hb, hcell⟩ := hr.2 (by omega)
  obtain ⟨b, o, s⟩ := ad
  cases hs
  rw [if_neg (by omega)]
  refine ⟨⟨b, o + 1, none⟩, by simp [Addr.add], rfl, hb, fun j u hu => ?_⟩
  have := hcell (j + 1) u (by simpa [intCs] using hu)
  rwa [show o + (j + 1) = o + 1 + j by omega] at this
 exact hd.keep fun p hp => ((Below.refl g w).setCell (p := ⟨g, 0, none⟩) (Nat.le_refl _) _).cell hp
theorem RdrAt.spoil {w : World} {g : Nat} {r : Rdr} (h : RdrAt w g r) (b : Bool) : RdrAt (w.setCell ⟨g, 1, none⟩ (.bool b)) g ⟨r.l, b⟩ := by
 obtain ⟨A, c, hc, hx, hr⟩ := h
 exact ⟨A, c, hc, heap_setCell_same w g 1 _ _ (.bool b) hx, hr.keep fun p hp => ((Below.refl g w).setCell (p := ⟨g, 1, none⟩) (Nat.le_refl _) _).cell hp⟩
set_option maxRecDepth 100000 in
set_option maxHeartbeats 2000000 in
theorem num_any (g : Nat) (r : Rdr) (w : World) (h : RdrAt w g r) (hl : r.l.length ≤ 1000000) :
  Calls Try.prog 80 #[.pointer (some ⟨g, 0, none⟩)] w fun en w' => en = .returned (.int .i64 r.num.1) ∧ RdrAt w' g r.num.2 ∧ w.grownBy w' (some g) := by
 obtain ⟨l, bad⟩ := r
 obtain ⟨A, c, hc, hx, hr⟩ := h
 cases l with
 | nil =>
  have HS := Kept.mk (RdrAt.spoil ⟨A, c, hc, hx, hr⟩ true)
  simp only [List.length_nil] at hx hc
  have Y := fun j => cell_of_row w g j _ _ _ hx
  have F := fun j => frozen_of_row w g j _ _ hx
  clear hx hr hl hc
  go_enter Try.func80, Try.ntmps80
  go_wp2_with fail
  go_ret
  exact ⟨rfl, HS.out, grown_setCell w ⟨g, 1, none⟩ _⟩
 | cons x t =>
  have hl : t.length + 1 ≤ 1000000 := by simpa using hl
  have hc : t.length + 1 ≤ c := by simpa using hc
  simp only [List.length_cons] at hx hr
  have HS := Kept.mk (RdrAt.read hc hx hr)
  obtain ⟨ad, rfl, hs, hb, hcell⟩ := hr.2 (by omega)
  obtain ⟨b, o, s⟩ := ad
  cases hs
  have q0 : w.cell? ⟨b, o, none⟩ = some (.int .i64 x) := hcell 0 _ rfl
  have Y := fun j => cell_of_row w g j _ _ _ hx
  have F := fun j => frozen_of_row w g j _ _ hx
  have h0 : ((t.length + 1 : Nat) : Int) ≠ 0 := by omega
  have h1 : 0 < t.length + 1 := by omega
  clear hx hr hcell hb
  by_cases hc1 : c = 1
  ·subst hc1
   obtain rfl : t = [] := List.eq_nil_of_length_eq_zero (by omega)
   rw [if_pos rfl] at HS
   go_enter Try.func80, Try.ntmps80
   go_wp2_with fail
   go_ret
   exact ⟨rfl, HS.out, grown_setCell w ⟨g, 0, none⟩ _⟩
  ·rw [if_neg hc1, Option.map_some] at HS
   go_enter Try.func80, Try.ntmps80
   go_wp2_with fail
   go_ret
   exact ⟨rfl, HS.out, grown_setCell w ⟨g, 0, none⟩ _⟩
set_option maxRecDepth 100000 in
set_option maxHeartbeats 2000000 in
theorem count_any (g : Nat) (r : Rdr) (w : World) (h : RdrAt w g r) (hl : r.l.length ≤ 1000000) :
  Calls Try.prog 82 #[.pointer (some ⟨g, 0, none⟩)] w fun en w' => en = .returned (.int .i64 r.count.1) ∧ RdrAt w' g r.count.2 ∧ w.grownBy w' (some g) := by
 have HN := Kept.mk (num_any g r w h hl)
 have hln := r.num_len
 unfold Rdr.count
 generalize r.num = q at *
 obtain ⟨n, r1⟩ := q
 simp only at hln HN ⊢
 have hlx : r1.l.length ≤ 1000000 := by omega
 generalize hq2 : (if n < 0 ∨ (r1.l.length : Int) < n then ((0 : Int), (⟨r1.l, true⟩ : Rdr)) else (n, r1)) = q2
 clear hl hln h
 go_enter Try.func82, Try.ntmps82
 go_wp2_with fail
 refine HN.out.mono ?_
 rintro en w1 ⟨rfl, h1, g1⟩
 have HR := Kept.mk h1
 have HG := Kept.mk g1
 have HS := Kept.mk (RdrAt.spoil h1 true)
 obtain ⟨A, c, _, hx, _⟩ := h1
 have Y := fun j => cell_of_row w1 g j _ _ _ hx
 have F := fun j => frozen_of_row w1 g j _ _ hx
 clear g1 hx HN
 by_cases h0 : n < 0
 ·rw [if_pos (.inl h0)] at hq2
  subst hq2
  go_wp2_with fail
  go_ret
  exact ⟨rfl, HS.out, grown_trans HG.out (grown_setCell w1 ⟨g, 1, none⟩ _)⟩
 ·by_cases h2 : (r1.l.length : Int) < n
  ·rw [if_pos (.inr h2)] at hq2
   subst hq2
   go_wp2_with fail
   go_ret
   exact ⟨rfl, HS.out, grown_trans HG.out (grown_setCell w1 ⟨g, 1, none⟩ _)⟩
  ·rw [if_neg (by omega)] at hq2
   subst hq2
   go_wp2_with fail
   go_ret
   exact ⟨rfl, HR.out, HG.out⟩
set_option maxRecDepth 100000 in
set_option maxHeartbeats 2000000 in
theorem flag_any (g : Nat) (r : Rdr) (w : World) (h : RdrAt w g r) (hl : r.l.length ≤ 1000000) :
  Calls Try.prog 103 #[.pointer (some ⟨g, 0, none⟩)] w fun en w' => en = .returned (.bool r.flag.1) ∧ RdrAt w' g r.flag.2 ∧ w.grownBy w' (some g) := by
 have HN := Kept.mk (num_any g r w h hl)
 unfold Rdr.flag
 generalize r.num = q at *
 obtain ⟨n, r1⟩ := q
 simp only at HN ⊢
 clear hl h
 go_enter Try.func103, Try.ntmps103
 go_wp2_with fail
 refine HN.out.mono ?_
 rintro en w1 ⟨rfl, h1, g1⟩
 have HG := Kept.mk g1
 have HS := Kept.mk (RdrAt.spoil h1 (r1.bad || (n != 0 && n != 1)))
 obtain ⟨l1, bad⟩ := r1
 obtain ⟨A, c, _, hx, _⟩ := h1
 simp only at hx HS ⊢
 have Y := fun j => cell_of_row w1 g j _ _ _ hx
 have F := fun j => frozen_of_row w1 g j _ _ hx
 clear g1 hx HN
 cases bad with
 | true =>
  go_wp2_with fail
  go_ret
  exact ⟨rfl, HS.out, grown_trans HG.out (grown_setCell w1 ⟨g, 1, none⟩ _)⟩
 | false =>
  by_cases h0 : n = 0
  ·subst h0
   go_wp2_with fail
   go_ret
   exact ⟨rfl, HS.out, grown_trans HG.out (grown_setCell w1 ⟨g, 1, none⟩ _)⟩
  ·have hb0 : (n != 0) = true := by simpa using h0
   by_cases h2 : n = 1
   ·subst h2
    go_wp2_with fail
    go_ret
    exact ⟨rfl, HS.out, grown_trans HG.out (grown_setCell w1 ⟨g, 1, none⟩ _)⟩
   ·have hb1 : (n != 1) = true := by simpa using h2
    have hb2 : (n == 1) = false := by simpa using h2
    rw [hb0, hb1] at HS
    go_wp2_with fail
    go_ret
    exact ⟨by first | rfl | simp [hb2], by simpa [hb0, hb1] using HS.out, grown_trans HG.out (grown_setCell w1 ⟨g, 1, none⟩ _)⟩
set_option maxRecDepth 100000 in
set_option maxHeartbeats 2000000 in
theorem nums_any (g : Nat) (r : Rdr) (w : World) (h : RdrAt w g r) (hl : r.l.length ≤ 1000000) :
  Calls Try.prog 81 #[.pointer (some ⟨g, 0, none⟩)] w fun en w' => ∃ v, en = .returned v ∧ OwnI w' w.heap.size v r.nums.1 ∧ RdrAt w' g r.nums.2 ∧ w.grownBy w' (some g) := by
 have HC := Kept.mk (count_any g r w h hl)
 have hcl := r.count_le
 have hlen := r.count_len
 have hgs : g < w.heap.size := h.lt
 unfold Rdr.nums
 generalize r.count = q at *
 obtain ⟨n, ⟨L, bad⟩⟩ := q
 simp only at hcl hlen HC ⊢
 obtain ⟨hn0, hn1⟩ := hcl
 obtain ⟨N, rfl⟩ := Int.eq_ofNat_of_zero_le hn0
 rw [Int.toNat_natCast]
 have hNL : N ≤ L.length := by omega
 have hLm : L.length ≤ 1000000 := by omega
 clear hl hlen h hn0 hn1
 go_enter Try.func81, Try.ntmps81
 go_wp2_with fail
 refine HC.out.mono ?_
 rintro en w1 ⟨rfl, h1, g1⟩
 have HR := Kept.mk h1
 have HG := Kept.mk g1
 clear g1 h1 HC
 go_wp2_with fail
 go_loopw [3, 6] (fun v i wr => ∃ k : Nat, k ≤ N ∧ i = .int .i64 ((k : Nat) : Int) ∧ OwnI wr w.heap.size v (L.take k) ∧ RdrAt wr g ⟨L.drop k, bad⟩ ∧ w.grownBy wr (some g)) (fun _ i _ => N - (intOf i).toNat)
 case atStart => exact ⟨0, Nat.zero_le _, rfl, OwnI.nil, HR.out, HG.out⟩
 case round =>
  obtain ⟨k, hk, rfl, ho, hr, hg⟩ := hrel
  have HO := Kept.mk ho
  have HR := Kept.mk hr
  have HG := Kept.mk hg
  clear ho hr hg
  by_cases hlt : k < N
  ·have hlt' : ((k : Nat) : Int) < (N : Int) := by omega
   have hkL : k < L.length := by omega
   have hd : L.drop k = L[k] :: L.drop (k + 1) := List.drop_eq_getElem_cons hkL
   have htk : L.take (k + 1) = L.take k ++ [L[k]] := List.take_succ_eq_append_getElem hkL
   have hkl : (L.take k).length < 1000000 := by rw [List.length_take]; omega
   have hll : (Rdr.mk (L.drop k) bad).l.length ≤ 1000000 := by show (L.drop k).length ≤ _; rw [List.length_drop]; omega
   have HN := Kept.mk (num_any g ⟨L.drop k, bad⟩ wr HR.out hll)
   have hq : (Rdr.mk (L.drop k) bad).num = (L[k], ⟨L.drop (k + 1), bad⟩) := by unfold Rdr.num; rw [hd]
   rw [hq] at HN
   have HT := Kept.mk htk
   generalize L[k] = x at *
   clear hd htk hll hq hkL
   go_wp2_with fail
   refine HN.out.mono ?_
   rintro en w2 ⟨rfl, h2, g2⟩
   have HO := Kept.mk (HO.out.grownG g2 hgs)
   have HR := Kept.mk h2
   have HG := Kept.mk (grown_trans HG.out g2)
   clear h2 g2 HN
   go_wp2_with (at_builtin; go_must (refine append_int _ rfl (.tmp 8) (.tmp 11) rfl w.heap.size rfl (HO.out.past (below_alloc_self _ _)) w2.heap.size x rfl (heap_alloc_new w2 _) hkl ?c1 ?_))
   case c1 => have := HG.out.size; simp; omega
   intro v' w' h1 h2 h3
   have hb : Below w.heap.size w2 w' := ((below_alloc_self w2 _).mono HG.out.size).trans h3
   have HO : Kept (OwnI w' w.heap.size v' (L.take (k + 1))) := ⟨by rw [HT.out]; exact h1⟩
   have HR := Kept.mk (HR.out.past hb hgs)
   have HG := Kept.mk (grown_past HG.out hb)
   clear h1 h2 h3 hb
   have wk : IntKind.i64.wrap (((k : Nat) : Int) + 1) = ((k : Nat) : Int) + 1 := IntWalk.i64_in _ (by omega)
   go_wp2_with fail
   go_roundw
   case rel => exact ⟨k + 1, by omega, by go_num, HO.out, HR.out, HG.out⟩
   case measure => simp [intOf]; omega
  ·obtain rfl : k = N := by omega
   go_wp2_with fail
   go_ret
   exact ⟨_, rfl, HO.out, HR.out, HG.out⟩
set_option maxRecDepth 100000 in
set_option maxHeartbeats 4000000 in
theorem ent_any (g : Nat) (r : Rdr) (w : World) (h : RdrAt w g r) (hl : r.l.length ≤ 1000000) :
  Calls Try.prog 83 #[.pointer (some ⟨g, 0, none⟩)] w fun en w' => en = .returned r.ent.1.v ∧ RdrAt w' g r.ent.2 ∧ w.grownBy w' (some g) := by
 have hgs : g < w.heap.size := h.lt
 have HN := Kept.mk (fun (q : Rdr) (w1 : World) (h1 : RdrAt w1 g q) (h2 : q.l.length ≤ 1000000) => num_any g q w1 h1 h2)
 have HF := Kept.mk (fun (q : Rdr) (w1 : World) (h1 : RdrAt w1 g q) (h2 : q.l.length ≤ 1000000) => flag_any g q w1 h1 h2)
 have l1 : r.n1.l.length ≤ 1000000 := Nat.le_trans r.num_len hl
 have l2 : r.n2.l.length ≤ 1000000 := Nat.le_trans r.n1.num_len l1
 have l3 : r.n3.l.length ≤ 1000000 := Nat.le_trans r.n2.num_len l2
 have l4 : r.n4.l.length ≤ 1000000 := Nat.le_trans r.n3.num_len l3
 have l5 : r.n5.l.length ≤ 1000000 := Nat.le_trans r.n4.num_len l4
 have l6 : r.n6.l.length ≤ 1000000 := Nat.le_trans r.n5.flag_len l5
 have l7 : r.n7.l.length ≤ 1000000 := Nat.le_trans r.n6.flag_len l6
 have HR := Kept.mk h
 have hl0 := hl
 have hne0 : some w.heap.size ≠ some g := fun e => by injection e with e; omega
 clear h hl
 go_enter Try.func83, Try.ntmps83
 go_wp2_with fail
 refine (HN.out r _ (HR.out.past (below_alloc_self w _) hgs) hl0).mono ?_
 rintro en w1 ⟨rfl, h1, g1⟩
 have HR := Kept.mk h1
 have HG := Kept.mk (grown_then (below_alloc_self w _) g1)
 have X0 := Kept.mk ((g1.block w.heap.size (by simp) hne0).trans (heap_alloc_new w (.cells (#[.int .i64 0, .int .i64 0, .int .i64 0, .int .i64 0, .int .i64 0, .bool false, .bool false, .bool false] : Array Value) 55)))
 have hs0 : w.heap.size < w1.heap.size := Nat.lt_of_lt_of_le (by simp) g1.size
 clear h1 g1
 go_wp2_with fail
 refine (HN.out r.n1 _ HR.out l1).mono ?_
 rintro en w2 ⟨rfl, h1, g1⟩
 have HR := Kept.mk h1
 have HG := Kept.mk (grown_trans HG.out g1)
 have X0 := Kept.mk ((g1.block w.heap.size hs0 hne0).trans X0.out)
 have hs0 := Nat.lt_of_lt_of_le hs0 g1.size
 clear h1 g1
 go_wp2_with fail
 refine (HN.out r.n2 _ HR.out l2).mono ?_
 rintro en w3 ⟨rfl, h1, g1⟩
 have HR := Kept.mk h1
 have HG := Kept.mk (grown_trans HG.out g1)
 have X0 := Kept.mk ((g1.block w.heap.size hs0 hne0).trans X0.out)
 have hs0 := Nat.lt_of_lt_of_le hs0 g1.size
 clear h1 g1
 go_wp2_with fail
 refine (HN.out r.n3 _ HR.out l3).mono ?_
 rintro en w4 ⟨rfl, h1, g1⟩
 have HR := Kept.mk h1
 have HG := Kept.mk (grown_trans HG.out g1)
 have X0 := Kept.mk ((g1.block w.heap.size hs0 hne0).trans X0.out)
 have hs0 := Nat.lt_of_lt_of_le hs0 g1.size
 clear h1 g1
 go_wp2_with fail
 refine (HN.out r.n4 _ HR.out l4).mono ?_
 rintro en w5 ⟨rfl, h1, g1⟩
 have HR := Kept.mk h1
 have HG := Kept.mk (grown_trans HG.out g1)
 have X0 := Kept.mk ((g1.block w.heap.size hs0 hne0).trans X0.out)
 have hs0 := Nat.lt_of_lt_of_le hs0 g1.size
 clear h1 g1
 go_wp2_with fail
 have b5 := below_alloc_self w5 (.cells (#[.int .i64 r.num.1, .int .i64 r.n1.num.1, .int .i64 r.n2.num.1, .int .i64 r.n3.num.1, .int .i64 r.n4.num.1, .bool false, .bool false, .bool false] : Array Value) 55)
 have X5 := Kept.mk (heap_alloc_new w5 (.cells (#[.int .i64 r.num.1, .int .i64 r.n1.num.1, .int .i64 r.n2.num.1, .int .i64 r.n3.num.1, .int .i64 r.n4.num.1, .bool false, .bool false, .bool false] : Array Value) 55))
 have HR := Kept.mk (HR.out.past b5 (Nat.lt_of_lt_of_le hgs HG.out.size))
 have h55 : w.heap.size ≤ w5.heap.size := HG.out.size
 have HG := Kept.mk (grown_past HG.out (b5.mono h55))
 have X0 := Kept.mk ((b5.block w.heap.size hs0).trans X0.out)
 clear b5
 have hs0 : w.heap.size < (w5.alloc (.cells (#[.int .i64 r.num.1, .int .i64 r.n1.num.1, .int .i64 r.n2.num.1, .int .i64 r.n3.num.1, .int .i64 r.n4.num.1, .bool false, .bool false, .bool false] : Array Value) 55)).heap.size := by simp; omega
 have hSS : w.heap.size ≠ w5.heap.size := by omega
 have h56 : w5.heap.size < (w5.alloc (.cells (#[.int .i64 r.num.1, .int .i64 r.n1.num.1, .int .i64 r.n2.num.1, .int .i64 r.n3.num.1, .int .i64 r.n4.num.1, .bool false, .bool false, .bool false] : Array Value) 55)).heap.size := by simp
 generalize w5.alloc (.cells (#[.int .i64 r.num.1, .int .i64 r.n1.num.1, .int .i64 r.n2.num.1, .int .i64 r.n3.num.1, .int .i64 r.n4.num.1, .bool false, .bool false, .bool false] : Array Value) 55) = w6 at *
 obtain ⟨S5, hS5⟩ : ∃ S, w5.heap.size = S := ⟨_, rfl⟩
 rw [hS5] at X5 h55 h56 hSS ⊢
 clear hS5
 have hne : ∀ x : Nat, some S5 = some g → x = x + 1 := fun x e => by injection e with e; omega
 refine (HF.out r.n5 _ HR.out l5).mono ?_
 rintro en w7 ⟨rfl, h1, g1⟩
 have HR := Kept.mk h1
 have HG := Kept.mk (grown_trans HG.out g1)
 have X0 := Kept.mk ((g1.block w.heap.size hs0 hne0).trans X0.out)
 have hs0 := Nat.lt_of_lt_of_le hs0 g1.size
 have X5 := Kept.mk ((g1.block S5 h56 (fun e => by have := hne 0 e; omega)).trans X5.out)
 have h56 := Nat.lt_of_lt_of_le h56 g1.size
 clear h1 g1
 go_wp2_with fail
 refine (HF.out r.n6 _ HR.out l6).mono ?_
 rintro en w8 ⟨rfl, h1, g1⟩
 have HR := Kept.mk h1
 have HG := Kept.mk (grown_trans HG.out g1)
 have X0 := Kept.mk ((g1.block w.heap.size hs0 hne0).trans X0.out)
 have hs0 := Nat.lt_of_lt_of_le hs0 g1.size
 have X5 := Kept.mk ((g1.block S5 h56 (fun e => by have := hne 0 e; omega)).trans X5.out)
 have h56 := Nat.lt_of_lt_of_le h56 g1.size
 clear h1 g1
 go_wp2_with fail
 refine (HF.out r.n7 _ HR.out l7).mono ?_
 rintro en w9 ⟨rfl, h1, g1⟩
 have HR := Kept.mk h1
 have HG := Kept.mk (grown_trans HG.out g1)
 have X0 := Kept.mk ((g1.block w.heap.size hs0 hne0).trans X0.out)
 have hs0 := Nat.lt_of_lt_of_le hs0 g1.size
 have X5 := (g1.block S5 h56 (fun e => by have := hne 0 e; omega)).trans X5.out
 have h56 := Nat.lt_of_lt_of_le h56 g1.size
 clear h1 g1
 have F := fun j => frozen_of_row w9 S5 j _ _ X5
 have Y := fun j => cell_of_row w9 S5 j _ _ _ X5
 go_upto_region 3 with (fail)
 have X5 := heap_setCell_same _ S5 7 _ _ (.bool r.n7.flag.1) (heap_setCell_same _ S5 6 _ _ (.bool r.n6.flag.1) (heap_setCell_same w9 S5 5 _ _ (.bool r.n5.flag.1) X5))
 have b9 := ((((Below.refl w.heap.size w9).setCell (p := ⟨S5, 5, none⟩) h55 (.bool r.n5.flag.1)).setCell (p := ⟨S5, 6, none⟩) h55 (.bool r.n6.flag.1)).setCell (p := ⟨S5, 7, none⟩) h55 (.bool r.n7.flag.1))
 have HR := Kept.mk (HR.out.past b9 hgs)
 have HG := Kept.mk (grown_past HG.out b9)
 have X5 : (((w9.setCell ⟨S5, 5, none⟩ (.bool r.n5.flag.1)).setCell ⟨S5, 6, none⟩ (.bool r.n6.flag.1)).setCell ⟨S5, 7, none⟩ (.bool r.n7.flag.1)).heap[S5]? = some (.cells (#[.int .i64 r.num.1, .int .i64 r.n1.num.1, .int .i64 r.n2.num.1, .int .i64 r.n3.num.1, .int .i64 r.n4.num.1, .bool r.n5.flag.1, .bool r.n6.flag.1, .bool r.n7.flag.1] : Array Value) 55 (0, 0)) := X5
 have X0 : (((w9.setCell ⟨S5, 5, none⟩ (.bool r.n5.flag.1)).setCell ⟨S5, 6, none⟩ (.bool r.n6.flag.1)).setCell ⟨S5, 7, none⟩ (.bool r.n7.flag.1)).heap[w.heap.size]? = some (.cells Ent.zero.cs.toArray 55 (0, 0)) := heap_set_far (heap_set_far (heap_set_far X0.out (Ne.symm hSS)) (Ne.symm hSS)) (Ne.symm hSS)
 have hs0 : w.heap.size < (((w9.setCell ⟨S5, 5, none⟩ (.bool r.n5.flag.1)).setCell ⟨S5, 6, none⟩ (.bool r.n6.flag.1)).setCell ⟨S5, 7, none⟩ (.bool r.n7.flag.1)).heap.size := Nat.lt_of_lt_of_le hs0 b9.size
 clear b9 Y F
 generalize ((w9.setCell ⟨S5, 5, none⟩ (.bool r.n5.flag.1)).setCell ⟨S5, 6, none⟩ (.bool r.n6.flag.1)).setCell ⟨S5, 7, none⟩ (.bool r.n7.flag.1) = w10 at *
 have Y5 := fun j => cell_of_row w10 S5 j _ _ _ X5
 have Y0 := fun j => cell_of_row w10 w.heap.size j _ _ _ X0
 have F0 := fun j => frozen_of_row w10 w.heap.size j _ _ X0
 simp only [Ent.cs, Ent.zero] at Y0
 have KX := Kept.mk X0
 clear X0 X5
 go_wp2_with fail
 have hb : ∀ (j : Nat) (v : Value) (w' : World), Below w.heap.size w10 w' → Below w.heap.size w10 (w'.setCell ⟨w.heap.size, j, none⟩ v) := fun j v w' h => h.setCell (Nat.le_refl _) v
 have hb := hb 7 (.bool r.n7.flag.1) _ (hb 6 (.bool r.n6.flag.1) _ (hb 5 (.bool r.n5.flag.1) _ (hb 4 (.int .i64 r.n4.num.1) _ (hb 3 (.int .i64 r.n3.num.1) _ (hb 2 (.int .i64 r.n2.num.1) _ (hb 1 (.int .i64 r.n1.num.1) _ (hb 0 (.int .i64 r.num.1) _ (Below.refl _ _))))))))
 exact at_ret _ [r.ent.1.v] Try.results83 (.cons (.cell (cs := r.ent.1.cs) (b := w.heap.size) (off := 0) rfl rfl (cells_of_block (box_set Ent.zero r.ent.1 KX.out)) Try.underlying55 rfl (by kernel_rfl)) .nil) rfl ⟨rfl, HR.out.past hb hgs, grown_past HG.out hb⟩
end Go.Proofs.Ytchldbkjapnlcaa
end
section
namespace Go.Proofs.Ytchldbkjapnlcaa
open Go.RowKit

/-! ### What numbers are a machine -/
def Rdr.ents (r : Rdr) : Nat → List Ent × Rdr
 | 0 => ([], r)
 | k + 1 => ((r.ents k).1 ++ [(r.ents k).2.ent.1], (r.ents k).2.ent.2)
def Rdr.s5 (r : Rdr) : Rdr := r.n4.nums.2
def Rdr.s6 (r : Rdr) : Rdr := r.s5.nums.2
def Rdr.s7 (r : Rdr) : Rdr := r.s6.num.2
def Rdr.s8 (r : Rdr) : Rdr := r.s7.count.2
def Rdr.s9 (r : Rdr) : Rdr := (r.s8.ents r.s7.count.1.toNat).2
def Rdr.s10 (r : Rdr) : Rdr := r.s9.nums.2
def Rdr.s11 (r : Rdr) : Rdr := r.s10.num.2
def Rdr.conf (r : Rdr) : Conf := ⟨⟨r.num.1, r.n1.num.1, r.n2.num.1, r.n3.num.1, r.n4.nums.1, r.s5.nums.1, r.s6.num.1⟩, (r.s8.ents r.s7.count.1.toNat).1, r.s9.nums.1, r.s10.num.1⟩
theorem Rdr.num_ok {r : Rdr} (h : r.num.2.bad = false) : r.bad = false ∧ r.l = r.num.1 :: r.num.2.l := by
 obtain ⟨l, bad⟩ := r
 cases l with
 | nil => cases h
 | cons x t => exact ⟨h, rfl⟩
theorem Rdr.count_ok {r : Rdr} (h : r.count.2.bad = false) : r.bad = false ∧ r.l = r.count.1 :: r.count.2.l := by
 unfold Rdr.count at h ⊢
 split at h
 ·cases h
 ·rename_i hn
  rw [if_neg hn]
  exact Rdr.num_ok h
theorem Rdr.nums_ok {r : Rdr} (h : r.nums.2.bad = false) : r.bad = false ∧ r.l = ((r.nums.1.length : Int) :: r.nums.1) ++ r.nums.2.l := by
 obtain ⟨h1, h2⟩ := Rdr.count_ok (r := r) h
 have hc := r.count_le
 refine ⟨h1, ?_⟩
 rw [h2]
 unfold Rdr.nums
 simp only [List.cons_append, List.take_append_drop, List.length_take]
 congr 1
 omega
theorem Rdr.flag_ok {r : Rdr} (h : r.flag.2.bad = false) : r.bad = false ∧ r.l = tI r.flag.1 :: r.flag.2.l := by
 unfold Rdr.flag at h ⊢
 simp only [Bool.or_eq_false_iff] at h
 obtain ⟨h1, h2⟩ := Rdr.num_ok (r := r) h.1
 refine ⟨h1, ?_⟩
 rw [h2]
 simp only
 congr 1
 have h3 := h.2
 simp only [Bool.and_eq_false_iff, bne_eq_false_iff_eq] at h3
 rcases h3 with h3 | h3 <;> rw [h3] <;> rfl
theorem Rdr.ent_ok {r : Rdr} (h : r.ent.2.bad = false) : r.bad = false ∧ r.l = entInts r.ent.1 ++ r.ent.2.l := by
 obtain ⟨b7, e7⟩ := Rdr.flag_ok (r := r.n7) h
 obtain ⟨b6, e6⟩ := Rdr.flag_ok (r := r.n6) b7
 obtain ⟨b5, e5⟩ := Rdr.flag_ok (r := r.n5) b6
 obtain ⟨b4, e4⟩ := Rdr.num_ok (r := r.n4) b5
 obtain ⟨b3, e3⟩ := Rdr.num_ok (r := r.n3) b4
 obtain ⟨b2, e2⟩ := Rdr.num_ok (r := r.n2) b3
 obtain ⟨b1, e1⟩ := Rdr.num_ok (r := r.n1) b2
 obtain ⟨b0, e0⟩ := Rdr.num_ok (r := r) b1
 refine ⟨b0, ?_⟩
 rw [e0]
 show r.num.1 :: r.n1.l = _
 rw [e1]
 show _ :: _ :: r.n2.l = _
 rw [e2]
 show _ :: _ :: _ :: r.n3.l = _
 rw [e3]
 show _ :: _ :: _ :: _ :: r.n4.l = _
 rw [e4]
 show _ :: _ :: _ :: _ :: _ :: r.n5.l = _
 rw [e5]
 show _ :: _ :: _ :: _ :: _ :: _ :: r.n6.l = _
 rw [e6]
 show _ :: _ :: _ :: _ :: _ :: _ :: _ :: r.n7.l = _
 rw [e7]
 rfl
theorem Rdr.ents_ok {r : Rdr} : ∀ (k : Nat), (r.ents k).2.bad = false → r.bad = false ∧ r.l = entsInts (r.ents k).1 ++ (r.ents k).2.l
 | 0, h => ⟨h, rfl⟩
 | k + 1, h => by
  obtain ⟨h1, h2⟩ := Rdr.ent_ok (r := (r.ents k).2) h
  obtain ⟨h3, h4⟩ := Rdr.ents_ok k h1
  refine ⟨h3, ?_⟩
  rw [h4, h2, Rdr.ents, entsInts_snoc, List.append_assoc]
theorem Rdr.ents_length (r : Rdr) (k : Nat) : (r.ents k).1.length = k := by
 induction k with
 | zero => rfl
 | succ k ih => rw [Rdr.ents, List.length_append, ih]; rfl
theorem Rdr.ents_len (r : Rdr) (k : Nat) : (r.ents k).2.l.length ≤ r.l.length := by
 induction k with
 | zero => exact Nat.le_refl _
 | succ k ih => exact Nat.le_trans (Rdr.ent_len _) ih
theorem Rdr.conf_ok {r : Rdr} (h : r.s11.bad = false) : r.bad = false ∧ r.l = cfInts r.conf ++ r.s11.l := by
 obtain ⟨b10, e10⟩ := Rdr.num_ok (r := r.s10) h
 obtain ⟨b9, e9⟩ := Rdr.nums_ok (r := r.s9) b10
 obtain ⟨b8, e8⟩ := Rdr.ents_ok (r := r.s8) _ b9
 obtain ⟨b7, e7⟩ := Rdr.count_ok (r := r.s7) b8
 obtain ⟨b6, e6⟩ := Rdr.num_ok (r := r.s6) b7
 obtain ⟨b5, e5⟩ := Rdr.nums_ok (r := r.s5) b6
 obtain ⟨b4, e4⟩ := Rdr.nums_ok (r := r.n4) b5
 obtain ⟨b3, e3⟩ := Rdr.num_ok (r := r.n3) b4
 obtain ⟨b2, e2⟩ := Rdr.num_ok (r := r.n2) b3
 obtain ⟨b1, e1⟩ := Rdr.num_ok (r := r.n1) b2
 obtain ⟨b0, e0⟩ := Rdr.num_ok (r := r) b1
 refine ⟨b0, ?_⟩
 have hc := r.s7.count_le
 have hN : ((r.s8.ents r.s7.count.1.toNat).1.length : Int) = r.s7.count.1 := by rw [Rdr.ents_length]; omega
 have g1 : r.n1.l = r.n1.num.1 :: r.n2.l := e1
 have g2 : r.n2.l = r.n2.num.1 :: r.n3.l := e2
 have g3 : r.n3.l = r.n3.num.1 :: r.n4.l := e3
 have g4 : r.n4.l = ((r.n4.nums.1.length : Int) :: r.n4.nums.1) ++ r.s5.l := e4
 have g5 : r.s5.l = ((r.s5.nums.1.length : Int) :: r.s5.nums.1) ++ r.s6.l := e5
 have g6 : r.s6.l = r.s6.num.1 :: r.s7.l := e6
 have g7 : r.s7.l = r.s7.count.1 :: r.s8.l := e7
 have g8 : r.s8.l = entsInts (r.s8.ents r.s7.count.1.toNat).1 ++ r.s9.l := e8
 have g9 : r.s9.l = ((r.s9.nums.1.length : Int) :: r.s9.nums.1) ++ r.s10.l := e9
 have g10 : r.s10.l = r.s10.num.1 :: r.s11.l := e10
 have g0 : r.l = r.num.1 :: r.n1.l := e0
 rw [g0, g1, g2, g3, g4, g5, g6, g7, g8, g9, g10]
 unfold cfInts stInts Rdr.conf
 simp only [hN, List.append_assoc, List.cons_append, List.nil_append]
theorem Rdr.nums_of (l t : List Int) (b : Bool) : (Rdr.mk ((l.length : Int) :: (l ++ t)) b).nums = (l, ⟨t, b⟩) := by
 have hc : (Rdr.mk ((l.length : Int) :: (l ++ t)) b).count = ((l.length : Int), ⟨l ++ t, b⟩) := by
  unfold Rdr.count
  rw [if_neg]
  ·rfl
  ·show ¬ ((l.length : Int) < 0 ∨ ((l ++ t).length : Int) < (l.length : Int))
   rw [List.length_append]
   omega
 unfold Rdr.nums
 rw [hc]
 simp
theorem Rdr.flag_of (f : Bool) (t : List Int) : (Rdr.mk (tI f :: t) false).flag = (f, ⟨t, false⟩) := by cases f <;> rfl
theorem Rdr.ent_of (e : Ent) (t : List Int) : (Rdr.mk (entInts e ++ t) false).ent = (e, ⟨t, false⟩) := by
 obtain ⟨a, b, c, d, n, f1, f2, f3⟩ := e
 cases f1 <;> cases f2 <;> cases f3 <;> rfl
theorem Rdr.ents_of : ∀ (l : List Ent) (t : List Int), (Rdr.mk (entsInts l ++ t) false).ents l.length = (l, ⟨t, false⟩) := by
 have key : ∀ (k : Nat) (l : List Ent) (t : List Int), k ≤ l.length → (Rdr.mk (entsInts l ++ t) false).ents k = (l.take k, ⟨entsInts (l.drop k) ++ t, false⟩) := by
  intro k l t
  induction k with
  | zero => intro _; rfl
  | succ k ih =>
   intro hk
   have h := ih (by omega)
   rw [Rdr.ents, h]
   have hd : l.drop k = l[k] :: l.drop (k + 1) := List.drop_eq_getElem_cons (by omega)
   have he : entsInts (l.drop k) ++ t = entInts l[k] ++ (entsInts (l.drop (k + 1)) ++ t) := by rw [hd]; simp only [entsInts, List.flatMap_cons, List.append_assoc]
   rw [he, Rdr.ent_of]
   simp only
   rw [List.take_succ_eq_append_getElem (by omega)]
 intro l t
 rw [key l.length l t (Nat.le_refl _)]
 simp [entsInts]
theorem Rdr.conf_of (m : Conf) : (Rdr.mk (cfInts m) false).conf = m ∧ (Rdr.mk (cfInts m) false).s11 = ⟨[], false⟩ := by
 obtain ⟨⟨r0, r1, r2, r3, mem, stack, pc⟩, buf, rsb, fin⟩ := m
 generalize hr : Rdr.mk (cfInts ⟨⟨r0, r1, r2, r3, mem, stack, pc⟩, buf, rsb, fin⟩) false = r
 have hl : r = ⟨r0 :: r1 :: r2 :: r3 :: ((mem.length : Int) :: (mem ++ ((stack.length : Int) :: (stack ++ (pc :: (buf.length : Int) :: (entsInts buf ++ ((rsb.length : Int) :: (rsb ++ [fin])))))))), false⟩ := by
  rw [← hr]
  unfold cfInts stInts
  simp only [List.append_assoc, List.cons_append, List.nil_append]
 have h4 : r.n4 = ⟨(mem.length : Int) :: (mem ++ ((stack.length : Int) :: (stack ++ (pc :: (buf.length : Int) :: (entsInts buf ++ ((rsb.length : Int) :: (rsb ++ [fin]))))))), false⟩ := by rw [hl]; rfl
 have e4 : r.n4.nums = (mem, ⟨(stack.length : Int) :: (stack ++ (pc :: (buf.length : Int) :: (entsInts buf ++ ((rsb.length : Int) :: (rsb ++ [fin]))))), false⟩) := by rw [h4]; exact Rdr.nums_of _ _ _
 have h5 : r.s5 = ⟨(stack.length : Int) :: (stack ++ (pc :: (buf.length : Int) :: (entsInts buf ++ ((rsb.length : Int) :: (rsb ++ [fin]))))), false⟩ := by unfold Rdr.s5; rw [e4]
 have e5 : r.s5.nums = (stack, ⟨pc :: (buf.length : Int) :: (entsInts buf ++ ((rsb.length : Int) :: (rsb ++ [fin]))), false⟩) := by rw [h5]; exact Rdr.nums_of _ _ _
 have h6 : r.s6 = ⟨pc :: (buf.length : Int) :: (entsInts buf ++ ((rsb.length : Int) :: (rsb ++ [fin]))), false⟩ := by unfold Rdr.s6; rw [e5]
 have h7 : r.s7 = ⟨(buf.length : Int) :: (entsInts buf ++ ((rsb.length : Int) :: (rsb ++ [fin]))), false⟩ := by unfold Rdr.s7; rw [h6]; rfl
 have e7 : r.s7.count = ((buf.length : Int), ⟨entsInts buf ++ ((rsb.length : Int) :: (rsb ++ [fin])), false⟩) := by
  rw [h7]
  unfold Rdr.count
  rw [if_neg]
  ·rfl
  ·show ¬ ((buf.length : Int) < 0 ∨ ((entsInts buf ++ ((rsb.length : Int) :: (rsb ++ [fin]))).length : Int) < (buf.length : Int))
   rw [List.length_append, entsInts_length]
   omega
 have h8 : r.s8 = ⟨entsInts buf ++ ((rsb.length : Int) :: (rsb ++ [fin])), false⟩ := by unfold Rdr.s8; rw [e7]
 have e8 : r.s8.ents r.s7.count.1.toNat = (buf, ⟨(rsb.length : Int) :: (rsb ++ [fin]), false⟩) := by rw [e7, h8]; simp only [Int.toNat_natCast]; exact Rdr.ents_of _ _
 have h9 : r.s9 = ⟨(rsb.length : Int) :: (rsb ++ [fin]), false⟩ := by unfold Rdr.s9; rw [e8]
 have e9 : r.s9.nums = (rsb, ⟨[fin], false⟩) := by rw [h9]; exact Rdr.nums_of _ _ _
 have h10 : r.s10 = ⟨[fin], false⟩ := by unfold Rdr.s10; rw [e9]
 refine ⟨?_, by unfold Rdr.s11; rw [h10]; rfl⟩
 unfold Rdr.conf
 rw [e4, e5, e8, e9, h6, h10, hl]
 rfl
/-- What comes of bytes that are read as a machine. -/
def ParsePost (b : List UInt8) (w : World) (en : Ending) (w' : World) : Prop := ∃ (cv : Cnf) (ok : Bool), en = .returned (.tuple #[cv.v, .bool ok]) ∧ Below w.heap.size w w' ∧
 (ok = true → ∃ m : Conf, CfIs w' cv m ∧ OwnE w' w.heap.size (.slice cv.buf.A cv.buf.n cv.buf.c) m.buf ∧ putL (cfInts m) = b ∧ (∀ x ∈ cfInts m, I64 x) ∧ (cfInts m).length ≤ b.length) ∧ (ok = false → cv = Cnf.zero ∧ ∀ m : Conf, (∀ x ∈ cfInts m, I64 x) → putL (cfInts m) ≠ b)
/-! ### How the reading goes -/
structure PA (w wr : World) (g : Nat) (st : Rdr) (c : Cnf) : Prop where
 rdr : RdrAt wr g st
 z : wr.heap[w.heap.size]? = some (.cells Cnf.zero.cs.toArray 41 (0, 0))
 x : wr.heap[g + 1]? = some (.cells c.cs.toArray 41 (0, 0))
 b : Below w.heap.size w wr
 lt : w.heap.size < g
theorem PA.sz {w wr : World} {g : Nat} {st : Rdr} {c : Cnf} (h : PA w wr g st c) : g + 1 < wr.heap.size := (Array.getElem?_eq_some_iff.1 h.x).1
theorem PA.step {w wr w' : World} {g : Nat} {st st' : Rdr} {c : Cnf} (h : PA w wr g st c) (hr : RdrAt w' g st') (hg : wr.grownBy w' (some g)) : PA w w' g st' c := by
 have h1 := h.sz
 have h2 := h.lt
 exact ⟨hr, (hg.block _ (by omega) (fun e => by injection e with e; omega)).trans h.z, (hg.block _ h1 (fun e => by injection e with e; omega)).trans h.x, h.b.grown hg h.b.size (fun k hk => by injection hk with hk; omega), h2⟩
theorem PA.set {w wr : World} {g : Nat} {st : Rdr} {c c' : Cnf} (h : PA w wr g st c) (j : Nat) (v : Value) (hc : c.cs.toArray.setIfInBounds j v = c'.cs.toArray) : PA w (wr.setCell ⟨g + 1, j, none⟩ v) g st c' := by
 have h2 := h.lt
 have hb : Below (g + 1) wr (wr.setCell ⟨g + 1, j, none⟩ v) := (Below.refl _ _).setCell (p := ⟨g + 1, j, none⟩) (Nat.le_refl _) v
 refine ⟨h.rdr.past hb (by omega), heap_set_far h.z (by show g + 1 ≠ w.heap.size; omega), ?_, h.b.setCell (p := ⟨g + 1, j, none⟩) (by show w.heap.size ≤ g + 1; omega) v, h2⟩
 rw [← hc]
 exact heap_setCell_same wr (g + 1) j _ _ v h.x
/-! ### One more entry is read -/
noncomputable def regP (id : Nat) : Code := (Try.f46.body.bind (findRegion id)).getD .skip
def bufCs (c : Cnf) (v : Value) : List Value := [.int .i64 c.st.r0, .int .i64 c.st.r1, .int .i64 c.st.r2, .int .i64 c.st.r3, .slice c.st.mem.A c.st.mem.n c.st.mem.c, .slice c.st.stack.A c.st.stack.n c.st.stack.c, .int .i64 c.st.pc, v, .slice c.rsb.A c.rsb.n c.rsb.c, .int .i64 c.fin]
/-- What holds while an entry is read and put behind all. -/
structure EZ (w0 : World) (g B : Nat) (st : Rdr) (c : Cnf) (l : List Ent) (done : Nat → Bool) (vals : Nat → Value) (w : World) : Prop where
 s : B ≤ w.heap.size
 i : ∀ (v : Value) (xs : List Int), OwnI w0 B v xs → OwnI w B v xs
 x : w.heap[g + 1]? = some (.cells (bufCs c (if done 7 = true then vals 5 else .slice c.buf.A c.buf.n c.buf.c)).toArray 41 (0, 0))
 r : RdrAt w g (if done 3 = true then st.ent.2 else st)
 o : done 5 = false → OwnE w B (.slice c.buf.A c.buf.n c.buf.c) l
 q : done 5 = true → ∃ s : Sl, vals 5 = .slice s.A s.n s.c ∧ OwnE w B (.slice s.A s.n s.c) (l ++ [st.ent.1])
section
variable {w0 w w' : World} {g B : Nat} {st : Rdr} {c : Cnf} {l : List Ent} {done : Nat → Bool} {vals : Nat → Value}
theorem EZ.start (hs : B ≤ w0.heap.size) (hx : w0.heap[g + 1]? = some (.cells c.cs.toArray 41 (0, 0))) (hr : RdrAt w0 g st) (ho : OwnE w0 B (.slice c.buf.A c.buf.n c.buf.c) l) : EZ w0 g B st c l (fun _ => false) (fun _ => undef) w0.drew :=
 ⟨hs, fun _ _ h => h, hx, hr, fun _ => ho, fun h => by cases h⟩
theorem EZ.other {i : Nat} {v : Value} (h : EZ w0 g B st c l done vals w) (h3 : ¬ 3 = i) (h5 : ¬ 5 = i) (h7 : ¬ 7 = i) (hb : Below w.heap.size w w') : EZ w0 g B st c l (fun j => done j || j == i) (fun j => if j = i then v else vals j) w' := by
 have e : ∀ k, ¬ k = i → (done k || k == i) = done k := fun k hk => by rw [show (k == i) = false by simpa using hk, Bool.or_false]
 refine ⟨Nat.le_trans h.s hb.size, fun v xs hv => (h.i v xs hv).past hb, ?_, ?_, fun hd => ?_, fun hd => ?_⟩
 ·simp only [e 7 h7, if_neg h5]
  exact heap_keep h.x hb
 ·simp only [e 3 h3]
  exact h.r.past hb h.r.lt
 ·simp only [e 5 h5] at hd
  exact (h.o hd).past hb
 ·simp only [e 5 h5] at hd
  obtain ⟨s, h1, h2⟩ := h.q hd
  simp only [if_neg h5]
  exact ⟨s, h1, h2.past hb⟩
theorem EZ.call {v : Value} (h : EZ w0 g B st c l done vals w) (hgB : g + 1 < B) (hr : RdrAt w' g st.ent.2) (hg : w.grownBy w' (some g)) : EZ w0 g B st c l (fun j => done j || j == 3) (fun j => if j = 3 then v else vals j) w' := by
 have e : ∀ k, ¬ k = 3 → (done k || k == 3) = done k := fun k hk => by rw [show (k == 3) = false by simpa using hk, Bool.or_false]
 refine ⟨Nat.le_trans h.s hg.size, fun v xs hv => (h.i v xs hv).grownG hg (by omega), ?_, ?_, fun hd => ?_, fun hd => ?_⟩
 ·simp only [e 7 (by decide), if_neg (show ¬ 5 = 3 by decide)]
  exact (hg.block _ (Array.getElem?_eq_some_iff.1 h.x).1 (fun e => by injection e with e; omega)).trans h.x
 ·simpa using hr
 ·simp only [e 5 (by decide)] at hd
  exact OwnE.grown (h.o hd) hg (by omega)
 ·simp only [e 5 (by decide)] at hd
  obtain ⟨s, h1, h2⟩ := h.q hd
  simp only [if_neg (show ¬ 5 = 3 by decide)]
  exact ⟨s, h1, OwnE.grown h2 hg (by omega)⟩
theorem EZ.app {v : Value} (h : EZ w0 g B st c l done vals w) (hgB : g + 1 < B) (h5 : done 5 = false) (h7 : done 7 = false) (hv : OwnE w' B v (l ++ [st.ent.1])) (hg : w.grownBy w' (Value.slice c.buf.A c.buf.n c.buf.c).ownBlock) : EZ w0 g B st c l (fun j => done j || j == 5) (fun j => if j = 5 then v else vals j) w' := by
 have e : ∀ k, ¬ k = 5 → (done k || k == 5) = done k := fun k hk => by rw [show (k == 5) = false by simpa using hk, Bool.or_false]
 have ho := h.o h5
 have hfar : ∀ k, k < B → some k ≠ (Value.slice c.buf.A c.buf.n c.buf.c).ownBlock := fun k hk e => by have := (World.ownsRow.lt ho k e.symm).1; omega
 refine ⟨Nat.le_trans h.s hg.size, fun v xs hv => own_other (h.i v xs hv) ho hg (by decide), ?_, ?_, fun hd => ?_, fun _ => ?_⟩
 ·have hx := h.x
  rw [h7, if_neg (by simp)] at hx
  rw [show (done 7 || 7 == 5) = false by rw [h7]; rfl, if_neg (by simp)]
  exact (hg.block _ (Array.getElem?_eq_some_iff.1 hx).1 (hfar _ hgB)).trans hx
 ·simp only [e 3 (by decide)]
  have hB2 : Below (g + 1) w w' := (Below.refl _ _).grown hg (Nat.le_of_lt (Array.getElem?_eq_some_iff.1 h.x).1) (fun k hk => by have := (World.ownsRow.lt ho k hk).1; omega)
  exact h.r.past hB2 (by omega)
 ·simp at hd
 ·obtain ⟨s, rfl, hs⟩ := hv.sl
  exact ⟨s, by simp, hs⟩
theorem EZ.store (h : EZ w0 g B st c l done vals w) (hgB : g + 1 < B) (h5 : done 5 = true) (h7 : done 7 = false) : EZ w0 g B st c l (fun j => done j || j == 7) (fun j => if j = 7 then undef else vals j) (w.setCell ⟨g + 1, 7, none⟩ (vals 5)) := by
 have e : ∀ k, ¬ k = 7 → (done k || k == 7) = done k := fun k hk => by rw [show (k == 7) = false by simpa using hk, Bool.or_false]
 refine ⟨by simpa [World.setCell] using h.s, fun v xs hv => own_far (h.i v xs hv) hgB _, ?_, ?_, fun hd => ?_, fun hd => ?_⟩
 ·have hx := h.x
  rw [h7, if_neg (by simp)] at hx
  rw [show (done 7 || 7 == 7) = true by simp, if_pos rfl, if_neg (by decide)]
  rw [heap_setCell_same w (g + 1) 7 _ _ (vals 5) hx]
  rfl
 ·simp only [e 3 (by decide)]
  exact h.r.past ((Below.refl (g + 1) w).setCell (p := ⟨g + 1, 7, none⟩) (Nat.le_refl _) _) (by omega)
 ·simp only [e 5 (by decide), h5] at hd
  cases hd
 ·obtain ⟨s, h1, h2⟩ := h.q h5
  simp only [if_neg (show ¬ 5 = 7 by decide)]
  exact ⟨s, h1, h2.far hgB _⟩
end
set_option maxRecDepth 100000 in
set_option maxHeartbeats 8000000 in
theorem par_reg13 {z0 z1 z2 z3 z4 z5 z8 z9 z10 z11 z12 z13 z14 z15 z16 z17 z18 z19 z20 z21 z22 z23 z24 z25 z26 z27 z28 z29 z30 z31 z32 z33 z34 z35 z36 z37 z38 z39 z40 z41 z42 z43 z44 z45 z46 z47 z48 z49 z50 z51 z52 z53 z54 z55 z56 z57 z58 z59 z60 z61 z62 z63 z64 z65 z66 z67 z68 z69 z70 z71 z72 : Value} (w0 : World) (g B : Nat) (st : Rdr) (c : Cnf) (l : List Ent) (hgB : g + 1 < B) (hB0 : B ≤ w0.heap.size) (X : Kept (w0.heap[g + 1]? = some (.cells c.cs.toArray 41 (0, 0)))) (HR : Kept (RdrAt w0 g st)) (HO : Kept (OwnE w0 B (.slice c.buf.A c.buf.n c.buf.c) l)) (hst : st.l.length ≤ 1000000) (hll : l.length ≤ 1000000) (Q : Exit → Act → World → Prop)
  (hQ : ∀ (u45 u46 u47 u48 u49 u50 u51 : Value) (w' : World) (s : Sl), RdrAt w' g st.ent.2 → w'.heap[g + 1]? = some (.cells (bufCs c (.slice s.A s.n s.c)).toArray 41 (0, 0)) → OwnE w' B (.slice s.A s.n s.c) (l ++ [st.ent.1]) → (∀ (v : Value) (xs : List Int), OwnI w0 B v xs → OwnI w' B v xs) → Below g w0 w' → B ≤ w'.heap.size → Q .normal ⟨#[z0, z1, z2, z3, z4, z5, .pointer (some ⟨g, 0, none⟩), .pointer (some ⟨g + 1, 0, none⟩), z8, z9, z10, z11, z12, z13, z14, z15, z16, z17, z18, z19, z20, z21, z22, z23, z24, z25, z26, z27, z28, z29, z30, z31, z32, z33, z34, z35, z36, z37, z38, z39, z40, z41, z42, z43, z44, u45, u46, u47, u48, u49, u50, u51, z52, z53, z54, z55, z56, z57, z58, z59, z60, z61, z62, z63, z64, z65, z66, z67, z68, z69, z70, z71, z72], []⟩ w') :
  Code.wp Try.prog (regP 13) Q ⟨#[z0, z1, z2, z3, z4, z5, .pointer (some ⟨g, 0, none⟩), .pointer (some ⟨g + 1, 0, none⟩), z8, z9, z10, z11, z12, z13, z14, z15, z16, z17, z18, z19, z20, z21, z22, z23, z24, z25, z26, z27, z28, z29, z30, z31, z32, z33, z34, z35, z36, z37, z38, z39, z40, z41, z42, z43, z44, z45, z46, z47, z48, z49, z50, z51, z52, z53, z54, z55, z56, z57, z58, z59, z60, z61, z62, z63, z64, z65, z66, z67, z68, z69, z70, z71, z72], []⟩ w0 := by
 conv => arg 2; whnf
 refine region_tellz (fun done vals w => EZ w0 g B st c l done vals w) g (G := fun _ => True) (ts := [
   .is (Value.pointer (some ⟨g + 1, 7, none⟩)),
   .is (.slice c.buf.A c.buf.n c.buf.c),
   .is (Value.pointer (some ⟨g, 0, none⟩)),
   .turns (fun v _ => v = st.ent.1.v) (fun w w' => w.grownBy w' (some g)),
   .makes (fun v w => ∃ gg : Nat, v = .slice (some ⟨gg, 0, none⟩) 1 1 ∧ w.heap[gg]? = some (.cells st.ent.1.cs.toArray 55 (0, 0))),
   .turns (fun _ _ => True) (fun _ _ => True),
   .is (Value.pointer (some ⟨g + 1, 7, none⟩)),
   .sets (fun _ _ => True)])
  (fin := []) (cs := [(3, 5), (5, 3), (7, 3), (7, 5), (5, 7), (3, 7)]) ?z0 ?zg (by kernel_rfl) rfl (by kernel_rfl) (by kernel_rfl)
  ⟨trivial, trivial, trivial, (fun _ _ _ h _ => h), (fun _ _ _ ⟨gg, h1, h2⟩ hb => ⟨gg, h1, heap_keep h2 hb⟩), (fun _ _ _ _ _ => trivial), trivial, (fun _ _ _ _ _ => trivial), trivial⟩ (fun _ _ _ _ => trivial) ?cs (by omega) trivial
  ⟨?_, ?_, ?_, ?_, ?_, ?_, ?_, ?_, trivial⟩ ?_
 case z0 => exact EZ.start hB0 X.out HR.out HO.out
 case zg =>
  intro i done vals w1 w2 v hti hni hZ hb
  have hz : EZ w0 g B st c l done vals w1 := hZ
  exact hz.other (by rintro rfl; cases hti) (by rintro rfl; cases hti) (by rintro rfl; cases hti) hb
 case cs =>
  intro p hp v w1 w2 hG hR hE
  simp only [List.mem_cons, List.not_mem_nil, or_false] at hp
  rcases hp with rfl | rfl | rfl | rfl | rfl | rfl
  all_goals exact hR
 ·intro done vals w1 hB _ hZ hni hcl hdn hd
  clear hd
  exact one_value (v := Value.pointer (some ⟨g + 1, 7, none⟩)) rfl (by kernel_rfl) ⟨post_is rfl, noturn rfl⟩
 ·intro done vals w1 hB _ hZ hni hcl hdn hd
  clear hd
  have hz : EZ w0 g B st c l done vals w1 := hZ
  have h7 := hcl 7 _ rfl (by kernel_rfl)
  have hx := hz.x
  rw [if_neg (by rw [h7]; simp)] at hx
  refine one_value (v := .slice c.buf.A c.buf.n c.buf.c) rfl ?_ ⟨post_is rfl, noturn rfl⟩
  exact exec_cell rfl (by kernel_rfl) (CellsAt.of_block hx 7 _ rfl) Try.underlying39 rfl
 ·intro done vals w1 hB _ hZ hni hcl hdn hd
  clear hd
  exact one_value (v := Value.pointer (some ⟨g, 0, none⟩)) rfl (by kernel_rfl) ⟨post_is rfl, noturn rfl⟩
 ·intro done vals w1 hB _ hZ hni hcl hdn hd
  clear hd
  have hz : EZ w0 g B st c l done vals w1 := hZ
  have hr := hz.r
  rw [if_neg (by rw [hni]; simp)] at hr
  have hgs := hr.lt
  refine one_calls (f := 83) (args := #[.pointer (some ⟨g, 0, none⟩)]) (w1 := w1) rfl (by kernel_rfl) ?_
  refine (ent_any g st w1 hr hst).mono ?_
  rintro e1 w2 ⟨rfl, h1, g1⟩
  exact ⟨_, rfl, post_turns rfl rfl (hB.grown g1 (Nat.le_of_lt hgs) (fun k hk => by injection hk with hk; omega)) trivial g1.size g1, fun _ => hz.call hgB h1 g1⟩
 ·intro done vals w1 hB _ hZ hni hcl hdn hd
  have e3 : vals 3 = st.ent.1.v := hd 3 (by kernel_rfl)
  clear hd
  generalize st.ent.1 = e at *
  exact one_makes (v := .slice (some ⟨w1.heap.size, 0, none⟩) 1 1) (w' := w1.alloc (.cells e.cs.toArray 55)) rfl (by rw [vals_at e3]; kernel_rfl) ⟨post_makes rfl ⟨w1.heap.size, rfl, heap_alloc_new w1 _⟩ (below_alloc_self w1 _), noturn rfl⟩
 ·intro done vals w1 hB _ hZ hni hcl hdn hd
  obtain ⟨gg, e4, hh⟩ : ∃ gg : Nat, vals 4 = .slice (some ⟨gg, 0, none⟩) 1 1 ∧ w1.heap[gg]? = some (.cells st.ent.1.cs.toArray 55 (0, 0)) := hd 4 (by kernel_rfl)
  clear hd
  have hz : EZ w0 g B st c l done vals w1 := hZ
  have h7 := hcl 7 _ rfl (by kernel_rfl)
  have hown := hz.o hni
  have hgs := hz.r.lt
  refine one_append rfl (.tmp 46) (.tmp 49) _ rfl B _ _ 8 48 Try.underlying39 info_ent rfl (by omega) (v := .slice c.buf.A c.buf.n c.buf.c) (by kernel_rfl) hown (A := some ⟨gg, 0, none⟩) (m := 1) (c := 1) ?_ (reads_block (cs := st.ent.1.cs) hh rfl) (by rw [← entCs_one]; exact entCs_one_cell [st.ent.1]) (by simp only [maxLen]; omega) (by omega) hz.s ?_
  ·rw [vals_at e4]
   kernel_rfl
  intro v2 w2 h1 h2 h3
  have h1 : OwnE w2 B v2 (l ++ [st.ent.1]) := by
   unfold OwnE
   rw [entCs_append, entCs_one, List.length_append]
   exact h1
  refine ⟨post_turns rfl trivial (hB.grown h2 (Nat.le_of_lt hgs) (fun k hk => by have := (World.ownsRow.lt hown k hk).1; omega)) trivial h2.size trivial, fun _ => hz.app hgB hni h7 h1 h2⟩
 ·intro done vals w1 hB _ hZ hni hcl hdn hd
  clear hd
  exact one_value (v := Value.pointer (some ⟨g + 1, 7, none⟩)) rfl (by kernel_rfl) ⟨post_is rfl, noturn rfl⟩
 ·intro done vals w1 hB _ hZ hni hcl hdn hd
  clear hd
  have hz : EZ w0 g B st c l done vals w1 := hZ
  have hj := hdn 5 (by kernel_rfl)
  have hx := hz.x
  have hst := grown_setCell w1 ⟨g + 1, 7, none⟩ (vals 5)
  refine one_skips (w' := w1.setCell ⟨g + 1, 7, none⟩ (vals 5)) rfl ?_ ⟨post_sets rfl (hB.setCell (p := ⟨g + 1, 7, none⟩) (by show g ≤ g + 1; omega) _) trivial hst.size trivial, fun _ => hz.store hgB hj hni⟩
  obtain ⟨s, es, -⟩ := hz.q hj
  rw [vals_at es]
  exact exec_store rfl (by kernel_rfl) (by kernel_rfl) (run_store_sl1 (CellsAt.of_block hx 7 _ rfl) (frozen_of_row w1 (g + 1) 7 _ _ hx) (by kernel_rfl))
 intro done vals w9 b9 _ hall hZ hr
 have hz : EZ w0 g B st c l done vals w9 := hZ
 have hx := hz.x
 rw [if_pos (hall 7 (by simp))] at hx
 have hrd := hz.r
 rw [if_pos (hall 3 (by simp))] at hrd
 obtain ⟨s, es, ho⟩ := hz.q (hall 5 (by simp))
 simp only [fillT, Tell.is, Tell.draws, Tell.makes, Tell.turns, Act.put, List.setIfInBounds_toArray, List.set_cons_zero, List.set_cons_succ]
 rw [es] at hx
 exact hQ _ _ _ _ _ _ _ w9 s hrd hx ho hz.i b9 hz.s
theorem own10I {w : World} {B g : Nat} {v : Value} {l : List Int} (e : Cnf) (h : OwnI w B v l) (hg : g < B) : OwnI ((((((((((w.setCell ⟨g, 0, none⟩ (.int .i64 e.st.r0)).setCell ⟨g, 1, none⟩ (.int .i64 e.st.r1)).setCell ⟨g, 2, none⟩ (.int .i64 e.st.r2)).setCell ⟨g, 3, none⟩ (.int .i64 e.st.r3)).setCell ⟨g, 4, none⟩ (.slice e.st.mem.A e.st.mem.n e.st.mem.c)).setCell ⟨g, 5, none⟩ (.slice e.st.stack.A e.st.stack.n e.st.stack.c)).setCell ⟨g, 6, none⟩ (.int .i64 e.st.pc)).setCell
   ⟨g, 7, none⟩ (.slice e.buf.A e.buf.n e.buf.c)).setCell ⟨g, 8, none⟩ (.slice e.rsb.A e.rsb.n e.rsb.c)).setCell ⟨g, 9, none⟩ (.int .i64 e.fin)) B v l := by
 iterate 10 refine OwnI.far ?_ (by exact hg) _
 exact h
set_option maxRecDepth 100000 in
set_option maxHeartbeats 4000000 in
theorem parse_any (A : Option Addr) (n c : Nat) (b : List UInt8) (w : World) (hl : b.length = n) (hc : n ≤ c) (hr : RdB w A b) (hn : n ≤ 100000) :
  Calls Try.prog 46 #[.slice A n c] w (ParsePost b w) := by
 subst hl
 have HR := Kept.mk hr
 clear hr
 go_enter Try.func46, Try.ntmps46
 go_wp2_with fail
 refine (code_get A b.length c b _ rfl hc (HR.out.past (below_alloc_self w _)) hn).mono ?_
 rintro en w2 ⟨m, ok, A2, c2, hgot⟩
 obtain ⟨rfl, hcap, hlen, hrd, hb2, h64, hyes, hno⟩ := hgot
 have X0 := Kept.mk (heap_keep (heap_alloc_new w (.cells (#[.int .i64 0, .int .i64 0, .int .i64 0, .int .i64 0, .slice none 0 0, .slice none 0 0, .int .i64 0, .slice none 0 0, .slice none 0 0, .int .i64 0] : Array Value) 41)) hb2)
 have WB := Kept.mk ((below_alloc_self w (.cells (#[.int .i64 0, .int .i64 0, .int .i64 0, .int .i64 0, .slice none 0 0, .slice none 0 0, .int .i64 0, .slice none 0 0, .slice none 0 0, .int .i64 0] : Array Value) 41)).trans (hb2.mono (by simp)))
 have hsz : w.heap.size < w2.heap.size := Nat.lt_of_lt_of_le (by simp) hb2.size
 have H64 := Kept.mk h64
 have HYES := Kept.mk hyes
 have HNO := Kept.mk hno
 have HRD := Kept.mk (RdrAt.new hcap hrd (!ok))
 clear hb2 h64 hyes hno hrd
 go_upto_region 5 with (fail)
 have b3 := (below_alloc_self w2 (.cells #[.slice A2 m.length c2, .bool (!ok)] 134)).alloc (by simp) (.cells (#[.int .i64 0, .int .i64 0, .int .i64 0, .int .i64 0, .slice none 0 0, .slice none 0 0, .int .i64 0, .slice none 0 0, .slice none 0 0, .int .i64 0] : Array Value) 41)
 have x3 := heap_alloc2_new w2 (.cells #[.slice A2 m.length c2, .bool (!ok)] 134) (.cells (#[.int .i64 0, .int .i64 0, .int .i64 0, .int .i64 0, .slice none 0 0, .slice none 0 0, .int .i64 0, .slice none 0 0, .slice none 0 0, .int .i64 0] : Array Value) 41)
 have hPA : PA w ((w2.alloc (.cells #[.slice A2 m.length c2, .bool (!ok)] 134)).alloc (.cells (#[.int .i64 0, .int .i64 0, .int .i64 0, .int .i64 0, .slice none 0 0, .slice none 0 0, .int .i64 0, .slice none 0 0, .slice none 0 0, .int .i64 0] : Array Value) 41)) w2.heap.size ⟨m, !ok⟩ Cnf.zero := ⟨HRD.out.past (below_alloc_self _ _) (by simp), heap_keep X0.out b3, x3, WB.out.trans (b3.mono (Nat.le_of_lt hsz)), hsz⟩
 clear b3 x3 hsz X0 WB HRD HR
 generalize (w2.alloc (.cells #[.slice A2 m.length c2, .bool (!ok)] 134)).alloc (.cells (#[.int .i64 0, .int .i64 0, .int .i64 0, .int .i64 0, .slice none 0 0, .slice none 0 0, .int .i64 0, .slice none 0 0, .slice none 0 0, .int .i64 0] : Array Value) 41) = w3 at *
 obtain ⟨g, hg⟩ : ∃ g, w2.heap.size = g := ⟨_, rfl⟩
 rw [hg] at hPA ⊢
 obtain ⟨r, hr⟩ : ∃ r : Rdr, r = ⟨m, !ok⟩ := ⟨_, rfl⟩
 rw [← hr] at hPA
 have HRR := Kept.mk hr
 have HP := Kept.mk hPA
 have hrl : r.l.length ≤ 100000 := by rw [hr]; show m.length ≤ _; omega
 clear hPA hr hg hlen hcap hn hc
 have l1 : r.n1.l.length ≤ 100000 := Nat.le_trans r.num_len hrl
 have l2 : r.n2.l.length ≤ 100000 := Nat.le_trans r.n1.num_len l1
 have l3 : r.n3.l.length ≤ 100000 := Nat.le_trans r.n2.num_len l2
 have l4 : r.n4.l.length ≤ 100000 := Nat.le_trans r.n3.num_len l3
 have l5 : r.s5.l.length ≤ 100000 := Nat.le_trans r.n4.nums_len l4
 have l6 : r.s6.l.length ≤ 100000 := Nat.le_trans r.s5.nums_len l5
 have l7 : r.s7.l.length ≤ 100000 := Nat.le_trans r.s6.num_len l6
 have l8 : r.s8.l.length ≤ 100000 := Nat.le_trans r.s7.count_len l7
 have l9 : r.s9.l.length ≤ 100000 := Nat.le_trans (r.s8.ents_len _) l8
 have l10 : r.s10.l.length ≤ 100000 := Nat.le_trans r.s9.nums_len l9
 have l11 : r.s11.l.length ≤ 100000 := Nat.le_trans r.s10.num_len l10
 have HN := Kept.mk (fun (q : Rdr) (w1 : World) (h1 : RdrAt w1 g q) (h2 : q.l.length ≤ 100000) => num_any g q w1 h1 (Nat.le_trans h2 (by decide)))
 have HNS := Kept.mk (fun (q : Rdr) (w1 : World) (h1 : RdrAt w1 g q) (h2 : q.l.length ≤ 100000) => nums_any g q w1 h1 (Nat.le_trans h2 (by decide)))
 go_loopw [19] (fun iv wr => ∃ (k : Nat) (i : Int), k ≤ 4 ∧ i = ((k : Nat) : Int) ∧ iv = .int .i64 i ∧ PA w wr g (if k = 0 then r else if k = 1 then r.n1 else if k = 2 then r.n2 else if k = 3 then r.n3 else r.n4)
  ⟨⟨if 0 < k then r.num.1 else 0, if 1 < k then r.n1.num.1 else 0, if 2 < k then r.n2.num.1 else 0, if 3 < k then r.n3.num.1 else 0, Sl.none, Sl.none, 0⟩, Sl.none, Sl.none, 0⟩) (fun iv _ => 4 - (intOf iv).toNat)
 case atStart => exact ⟨0, 0, by omega, rfl, rfl, HP.out⟩
 case round =>
  obtain ⟨k, i, hk, hik, rfl, hp⟩ := hrel
  by_cases hlt : k < 4
  ·have hk' : k = 0 ∨ k = 1 ∨ k = 2 ∨ k = 3 := by omega
   clear hlt hk
   rcases hk' with rfl | rfl | rfl | rfl
   ·have hi : i = 0 := by simpa using hik
    subst hi
    have hp : PA w wr g r ⟨⟨0, 0, 0, 0, Sl.none, Sl.none, 0⟩, Sl.none, Sl.none, 0⟩ := hp
    have HP := Kept.mk hp
    clear hp hik
    go_wp2_with fail
    refine (HN.out r wr HP.out.rdr hrl).mono ?_
    rintro en w4 ⟨rfl, h1, g1⟩
    have hp := HP.out.step h1 g1
    have Y := fun j => cell_of_row w4 (g + 1) j _ _ _ hp.x
    have F := fun j => frozen_of_row w4 (g + 1) j _ _ hp.x
    have HP := Kept.mk hp
    clear h1 g1 hp
    go_wp2_with fail
    go_roundw
    case rel => exact ⟨0 + 1, 0 + 1, by omega, rfl, by go_num, HP.out.set 0 _ rfl⟩
    case measure => simp [intOf]
   ·have hi : i = 1 := by simpa using hik
    subst hi
    have hp : PA w wr g r.n1 ⟨⟨r.num.1, 0, 0, 0, Sl.none, Sl.none, 0⟩, Sl.none, Sl.none, 0⟩ := hp
    have HP := Kept.mk hp
    clear hp hik
    go_wp2_with fail
    refine (HN.out r.n1 wr HP.out.rdr l1).mono ?_
    rintro en w4 ⟨rfl, h1, g1⟩
    have hp := HP.out.step h1 g1
    have Y := fun j => cell_of_row w4 (g + 1) j _ _ _ hp.x
    have F := fun j => frozen_of_row w4 (g + 1) j _ _ hp.x
    have HP := Kept.mk hp
    clear h1 g1 hp
    go_wp2_with fail
    go_roundw
    case rel => exact ⟨1 + 1, 1 + 1, by omega, rfl, by go_num, HP.out.set 1 _ rfl⟩
    case measure => simp [intOf]
   ·have hi : i = 2 := by simpa using hik
    subst hi
    have hp : PA w wr g r.n2 ⟨⟨r.num.1, r.n1.num.1, 0, 0, Sl.none, Sl.none, 0⟩, Sl.none, Sl.none, 0⟩ := hp
    have HP := Kept.mk hp
    clear hp hik
    go_wp2_with fail
    refine (HN.out r.n2 wr HP.out.rdr l2).mono ?_
    rintro en w4 ⟨rfl, h1, g1⟩
    have hp := HP.out.step h1 g1
    have Y := fun j => cell_of_row w4 (g + 1) j _ _ _ hp.x
    have F := fun j => frozen_of_row w4 (g + 1) j _ _ hp.x
    have HP := Kept.mk hp
    clear h1 g1 hp
    go_wp2_with fail
    go_roundw
    case rel => exact ⟨2 + 1, 2 + 1, by omega, rfl, by go_num, HP.out.set 2 _ rfl⟩
    case measure => simp [intOf]
   ·have hi : i = 3 := by simpa using hik
    subst hi
    have hp : PA w wr g r.n3 ⟨⟨r.num.1, r.n1.num.1, r.n2.num.1, 0, Sl.none, Sl.none, 0⟩, Sl.none, Sl.none, 0⟩ := hp
    have HP := Kept.mk hp
    clear hp hik
    go_wp2_with fail
    refine (HN.out r.n3 wr HP.out.rdr l3).mono ?_
    rintro en w4 ⟨rfl, h1, g1⟩
    have hp := HP.out.step h1 g1
    have Y := fun j => cell_of_row w4 (g + 1) j _ _ _ hp.x
    have F := fun j => frozen_of_row w4 (g + 1) j _ _ hp.x
    have HP := Kept.mk hp
    clear h1 g1 hp
    go_wp2_with fail
    go_roundw
    case rel => exact ⟨3 + 1, 3 + 1, by omega, rfl, by go_num, HP.out.set 3 _ rfl⟩
    case measure => simp [intOf]
  ·obtain rfl : k = 4 := by omega
   have hi : i = 4 := by simpa using hik
   subst hi
   have hp : PA w wr g r.n4 ⟨⟨r.num.1, r.n1.num.1, r.n2.num.1, r.n3.num.1, Sl.none, Sl.none, 0⟩, Sl.none, Sl.none, 0⟩ := hp
   have HP := Kept.mk hp
   have hBg : g + 1 < wr.heap.size := hp.sz
   clear hp hik hlt hk
   obtain ⟨B, hB⟩ : ∃ B, B = wr.heap.size := ⟨_, rfl⟩
   have hBs : B ≤ wr.heap.size := by omega
   rw [← hB] at hBg
   go_wp2_with fail
   refine (HNS.out r.n4 wr HP.out.rdr l4).mono ?_
   rintro en w4 ⟨v1, rfl, ho, h1, g1⟩
   rw [← hB] at ho
   obtain ⟨s1, rfl, ho⟩ := ho.sl
   have HP := Kept.mk (HP.out.step h1 g1)
   have HO1 := Kept.mk ho
   have hBs := Nat.le_trans hBs g1.size
   clear h1 g1 ho hB
   go_wp2_with fail
   refine (HNS.out r.s5 w4 HP.out.rdr l5).mono ?_
   rintro en w5 ⟨v2, rfl, ho, h1, g1⟩
   obtain ⟨s2, rfl, ho2⟩ := (OwnI.lower ho hBs).sl
   have hp := HP.out.step h1 g1
   have Y := fun j => cell_of_row w5 (g + 1) j _ _ _ hp.x
   have F := fun j => frozen_of_row w5 (g + 1) j _ _ hp.x
   have HP := Kept.mk ((hp.set 4 (.slice s1.A s1.n s1.c) (c' := ⟨⟨r.num.1, r.n1.num.1, r.n2.num.1, r.n3.num.1, s1, Sl.none, 0⟩, Sl.none, Sl.none, 0⟩) rfl).set 5 (.slice s2.A s2.n s2.c) (c' := ⟨⟨r.num.1, r.n1.num.1, r.n2.num.1, r.n3.num.1, s1, s2, 0⟩, Sl.none, Sl.none, 0⟩) rfl)
   have HO1 := Kept.mk (((HO1.out.grownG g1 (by omega)).far (p := ⟨g + 1, 4, none⟩) hBg (.slice s1.A s1.n s1.c)).far (p := ⟨g + 1, 5, none⟩) hBg (.slice s2.A s2.n s2.c))
   have HO2 := Kept.mk ((ho2.far (p := ⟨g + 1, 4, none⟩) hBg (.slice s1.A s1.n s1.c)).far (p := ⟨g + 1, 5, none⟩) hBg (.slice s2.A s2.n s2.c))
   have hBs : B ≤ ((w5.setCell ⟨g + 1, 4, none⟩ (.slice s1.A s1.n s1.c)).setCell ⟨g + 1, 5, none⟩ (.slice s2.A s2.n s2.c)).heap.size := by have := g1.size; simp [World.setCell]; omega
   clear h1 g1 ho ho2 hp
   go_upto_region 10 with (fail)
   clear Y F
   generalize (w5.setCell ⟨g + 1, 4, none⟩ (.slice s1.A s1.n s1.c)).setCell ⟨g + 1, 5, none⟩ (.slice s2.A s2.n s2.c) = w6 at *
   go_wp2_with fail
   refine (HN.out r.s6 w6 HP.out.rdr l6).mono ?_
   rintro en w7 ⟨rfl, h1, g1⟩
   have hp := HP.out.step h1 g1
   have Y := fun j => cell_of_row w7 (g + 1) j _ _ _ hp.x
   have F := fun j => frozen_of_row w7 (g + 1) j _ _ hp.x
   have HP := Kept.mk (hp.set 6 (.int .i64 r.s6.num.1) (c' := ⟨⟨r.num.1, r.n1.num.1, r.n2.num.1, r.n3.num.1, s1, s2, r.s6.num.1⟩, Sl.none, Sl.none, 0⟩) rfl)
   have HO1 := Kept.mk ((HO1.out.grownG g1 (by omega)).far (p := ⟨g + 1, 6, none⟩) hBg (.int .i64 r.s6.num.1))
   have HO2 := Kept.mk ((HO2.out.grownG g1 (by omega)).far (p := ⟨g + 1, 6, none⟩) hBg (.int .i64 r.s6.num.1))
   have hBs : B ≤ (w7.setCell ⟨g + 1, 6, none⟩ (.int .i64 r.s6.num.1)).heap.size := by have := g1.size; simp [World.setCell]; omega
   clear h1 g1 hp
   go_upto_region 11 with (fail)
   clear Y F
   generalize w7.setCell ⟨g + 1, 6, none⟩ (.int .i64 r.s6.num.1) = w8 at *
   go_wp2_with fail
   refine (count_any g r.s7 w8 HP.out.rdr (Nat.le_trans l7 (by decide))).mono ?_
   rintro en w9 ⟨rfl, h1, g1⟩
   have hcl := r.s7.count_le
   have HP := Kept.mk (HP.out.step h1 g1)
   have HO1 := Kept.mk (HO1.out.grownG g1 (by omega))
   have HO2 := Kept.mk (HO2.out.grownG g1 (by omega))
   have hBs := Nat.le_trans hBs g1.size
   clear h1 g1
   obtain ⟨N, hN⟩ : ∃ N, r.s7.count.1.toNat = N := ⟨_, rfl⟩
   have hcN : r.s7.count.1 = (N : Int) := by omega
   have HNN := Kept.mk hN
   have hNl : N ≤ 100000 := by have : (r.s7.count.2.l.length : Int) ≤ 100000 := (by have := l8; unfold Rdr.s8 at this; omega); omega
   rw [hcN]
   clear hcl hN hcN
   go_wp2_with fail
   go_loopw [43] (fun iv wq => ∃ (k : Nat) (sb : Sl), k ≤ N ∧ iv = .int .i64 ((k : Nat) : Int) ∧ PA w wq g (r.s8.ents k).2 ⟨⟨r.num.1, r.n1.num.1, r.n2.num.1, r.n3.num.1, s1, s2, r.s6.num.1⟩, sb, Sl.none, 0⟩ ∧ OwnE wq B (.slice sb.A sb.n sb.c) (r.s8.ents k).1 ∧ OwnI wq B (.slice s1.A s1.n s1.c) r.n4.nums.1 ∧ OwnI wq B (.slice s2.A s2.n s2.c) r.s5.nums.1 ∧ B ≤ wq.heap.size) (fun iv _ => N - (intOf iv).toNat)
   case atStart => exact ⟨0, Sl.none, Nat.zero_le _, rfl, HP.out, OwnE.nil, HO1.out, HO2.out, hBs⟩
   case round =>
    obtain ⟨k, sb, hk, rfl, hp, hob, ho1, ho2, hbs⟩ := hrel
    have HP := Kept.mk hp
    have HOB := Kept.mk hob
    have HO1 := Kept.mk ho1
    have HO2 := Kept.mk ho2
    clear hp hob ho1 ho2
    by_cases hlt : k < N
    ·have hlt' : ((k : Nat) : Int) < (N : Int) := by omega
     go_upto_region 13 with (fail)
     have hlb : (r.s8.ents k).1.length ≤ 1000000 := by rw [Rdr.ents_length]; omega
     have hst : (r.s8.ents k).2.l.length ≤ 1000000 := Nat.le_trans (r.s8.ents_len k) (Nat.le_trans l8 (by decide))
     have wk : IntKind.i64.wrap (((k : Nat) : Int) + 1) = ((k : Nat) : Int) + 1 := IntWalk.i64_in _ (by omega)
     refine par_reg13 wr g B (r.s8.ents k).2 ⟨⟨r.num.1, r.n1.num.1, r.n2.num.1, r.n3.num.1, s1, s2, r.s6.num.1⟩, sb, Sl.none, 0⟩ (r.s8.ents k).1 hBg hbs ⟨HP.out.x⟩ ⟨HP.out.rdr⟩ ⟨HOB.out⟩ hst hlb _ ?_
     intros
     rename_i w10 s4 hr4 hx4 ho4 hi4 hb4 hs4
     have HP : Kept (PA w w10 g (r.s8.ents (k + 1)).2 ⟨⟨r.num.1, r.n1.num.1, r.n2.num.1, r.n3.num.1, s1, s2, r.s6.num.1⟩, s4, Sl.none, 0⟩) := ⟨⟨hr4, (hb4.block _ HP.out.lt).trans HP.out.z, hx4, HP.out.b.trans (hb4.mono (Nat.le_of_lt HP.out.lt)), HP.out.lt⟩⟩
     have HOB : Kept (OwnE w10 B (.slice s4.A s4.n s4.c) (r.s8.ents (k + 1)).1) := ⟨ho4⟩
     have HO1 := Kept.mk (hi4 _ _ HO1.out)
     have HO2 := Kept.mk (hi4 _ _ HO2.out)
     clear hr4 hx4 ho4 hi4 hb4 hlb hst hbs
     go_wp2_with fail
     go_roundw
     case rel => exact ⟨k + 1, s4, by omega, by go_num, HP.out, HOB.out, HO1.out, HO2.out, hs4⟩
     case measure => simp [intOf]; omega
    ·obtain rfl : k = N := by omega
     have hs9 : (r.s8.ents k).2 = r.s9 := by unfold Rdr.s9; rw [HNN.out]
     rw [hs9] at HP
     go_wp2_with fail
     refine (HNS.out r.s9 wr HP.out.rdr l9).mono ?_
     rintro en w10 ⟨v3, rfl, ho, h1, g1⟩
     obtain ⟨s3, rfl, ho3⟩ := (OwnI.lower ho hbs).sl
     have hp := HP.out.step h1 g1
     have Y := fun j => cell_of_row w10 (g + 1) j _ _ _ hp.x
     have F := fun j => frozen_of_row w10 (g + 1) j _ _ hp.x
     have HP := Kept.mk (hp.set 8 (.slice s3.A s3.n s3.c) (c' := ⟨⟨r.num.1, r.n1.num.1, r.n2.num.1, r.n3.num.1, s1, s2, r.s6.num.1⟩, sb, s3, 0⟩) rfl)
     have HO1 := Kept.mk ((HO1.out.grownG g1 (by omega)).far (p := ⟨g + 1, 8, none⟩) hBg (.slice s3.A s3.n s3.c))
     have HO2 := Kept.mk ((HO2.out.grownG g1 (by omega)).far (p := ⟨g + 1, 8, none⟩) hBg (.slice s3.A s3.n s3.c))
     have HOB := Kept.mk ((OwnE.grown HOB.out g1 (by omega)).far (p := ⟨g + 1, 8, none⟩) hBg (.slice s3.A s3.n s3.c))
     have HO3 := Kept.mk (ho3.far (p := ⟨g + 1, 8, none⟩) hBg (.slice s3.A s3.n s3.c))
     clear h1 g1 hp ho ho3
     go_upto_region 16 with (fail)
     clear Y F
     generalize w10.setCell ⟨g + 1, 8, none⟩ (.slice s3.A s3.n s3.c) = w11 at *
     go_wp2_with fail
     refine (HN.out r.s10 w11 HP.out.rdr l10).mono ?_
     rintro en w12 ⟨rfl, h1, g1⟩
     have hp := HP.out.step h1 g1
     have Y := fun j => cell_of_row w12 (g + 1) j _ _ _ hp.x
     have F := fun j => frozen_of_row w12 (g + 1) j _ _ hp.x
     have HP := Kept.mk (hp.set 9 (.int .i64 r.s10.num.1) (c' := ⟨⟨r.num.1, r.n1.num.1, r.n2.num.1, r.n3.num.1, s1, s2, r.s6.num.1⟩, sb, s3, r.s10.num.1⟩) rfl)
     have HO1 := Kept.mk ((HO1.out.grownG g1 (by omega)).far (p := ⟨g + 1, 9, none⟩) hBg (.int .i64 r.s10.num.1))
     have HO2 := Kept.mk ((HO2.out.grownG g1 (by omega)).far (p := ⟨g + 1, 9, none⟩) hBg (.int .i64 r.s10.num.1))
     have HOB := Kept.mk ((OwnE.grown HOB.out g1 (by omega)).far (p := ⟨g + 1, 9, none⟩) hBg (.int .i64 r.s10.num.1))
     have HO3 := Kept.mk ((HO3.out.grownG g1 (by omega)).far (p := ⟨g + 1, 9, none⟩) hBg (.int .i64 r.s10.num.1))
     clear h1 g1 hp
     go_upto_region 17 with (fail)
     clear Y F
     generalize w12.setCell ⟨g + 1, 9, none⟩ (.int .i64 r.s10.num.1) = w13 at *
     have hp : PA w w13 g r.s11 ⟨⟨r.num.1, r.n1.num.1, r.n2.num.1, r.n3.num.1, s1, s2, r.s6.num.1⟩, sb, s3, r.s10.num.1⟩ := HP.out
     have hfail : (r.s11.bad = true ∨ r.s11.l ≠ []) → ∀ m' : Conf, (∀ x ∈ cfInts m', I64 x) → putL (cfInts m') ≠ b := by
      intro hor m' hm' he
      cases hok : ok with
      | false => exact (HNO.out hok).2 (cfInts m') hm' he
      | true =>
       have hmm := putL_inj _ _ hm' H64.out (he.trans (HYES.out hok).symm)
       have hrr := HRR.out
       rw [hok, ← hmm] at hrr
       have := (Rdr.conf_of m').2
       rw [show (Rdr.mk (cfInts m') false) = r from hrr.symm] at this
       rw [this] at hor
       rcases hor with h | h
       ·cases h
       ·exact h rfl
     have hyes2 : r.s11.bad = false → r.s11.l = [] → putL (cfInts r.conf) = b ∧ (∀ x ∈ cfInts r.conf, I64 x) := by
      intro hb0 hl0
      obtain ⟨h1, h2⟩ := Rdr.conf_ok hb0
      rw [hl0, List.append_nil] at h2
      have hrr := HRR.out
      rw [hrr] at h1
      have hok : ok = true := by simpa using h1
      have hm : m = cfInts r.conf := by rw [← h2, hrr]
      rw [← hm]
      exact ⟨HYES.out hok, H64.out⟩
     have HF := Kept.mk hfail
     have HY := Kept.mk hyes2
     have hbsz : (cfInts r.conf).length ≤ 9 * (cfInts r.conf).length := by omega
     clear hfail hyes2 hbsz
     have Y0 := fun j => cell_of_row w13 w.heap.size j _ _ _ hp.z
     have F0 := fun j => frozen_of_row w13 w.heap.size j _ _ hp.z
     have Yh := fun j => cell_of_row w13 (g + 1) j _ _ _ hp.x
     simp only [Cnf.cs, Cnf.zero, Sl.none] at Y0
     simp only [Cnf.cs] at Yh
     have Z0 := Kept.mk hp.z
     have HBL := Kept.mk hp.b
     have hwB : w.heap.size < B := by have := hp.lt; omega
     obtain ⟨A3, c3, hc3, hx3, -⟩ := hp.rdr
     have HRC : Kept (r.conf = ⟨⟨r.num.1, r.n1.num.1, r.n2.num.1, r.n3.num.1, r.n4.nums.1, r.s5.nums.1, r.s6.num.1⟩, (r.s8.ents k).1, r.s9.nums.1, r.s10.num.1⟩) := ⟨by unfold Rdr.conf; rw [HNN.out]⟩
     generalize r.conf = rc at *
     generalize r.num.1 = x0 at *
     generalize r.n1.num.1 = x1 at *
     generalize r.n2.num.1 = x2 at *
     generalize r.n3.num.1 = x3 at *
     generalize r.s6.num.1 = x6 at *
     generalize r.s10.num.1 = x9 at *
     generalize r.n4.nums.1 = lm at *
     generalize r.s5.nums.1 = ls at *
     generalize r.s9.nums.1 = lq at *
     generalize (r.s8.ents k).1 = lb at *
     generalize r.s11 = q at *
     obtain ⟨L, bad⟩ := q
     have Yg := fun j => cell_of_row w13 g j _ _ _ hx3
     simp only at HF HY Yg
     have hbelow : ∀ (w' : World), Below w.heap.size w w' → ∀ (j : Nat) (v : Value), Below w.heap.size w (w'.setCell ⟨w.heap.size, j, none⟩ v) := fun w' h j v => h.setCell (p := ⟨w.heap.size, j, none⟩) (Nat.le_refl _) v
     have HBW := Kept.mk hbelow
     clear hp HP hx3 hbelow l1 l2 l3 l4 l5 l6 l7 l8 l9 l10 l11 HRR HYES HNO H64 HN HNS HNN
     cases bad with
     | true =>
      go_wp2_with fail
      have hb := HBW.out _ (HBW.out _ (HBW.out _ (HBW.out _ (HBW.out _ (HBW.out _ (HBW.out _ (HBW.out _ (HBW.out _ (HBW.out _ HBL.out 0 (.int .i64 0)) 1 (.int .i64 0)) 2 (.int .i64 0)) 3 (.int .i64 0)) 4 (.slice none 0 0)) 5 (.slice none 0 0)) 6 (.int .i64 0)) 7 (.slice none 0 0)) 8 (.slice none 0 0)) 9 (.int .i64 0)
      exact at_ret _ [Cnf.zero.v, .bool false] Try.results46 (.cons (.cell (cs := Cnf.zero.cs) (b := w.heap.size) (off := 0) rfl rfl (cells_of_block (cnf_set2 Cnf.zero Cnf.zero Z0.out)) Try.underlying41 rfl (by kernel_rfl)) (.cons (.tmp rfl) .nil)) rfl ⟨Cnf.zero, false, rfl, hb, fun h => (by cases h), fun _ => ⟨rfl, HF.out (by simp)⟩⟩
     | false =>
      cases L with
      | cons x t =>
       have h0 : 0 < ((t.length + 1 : Nat) : Int) := by omega
       simp only [List.length_cons] at Yg hc3
       go_wp2_with fail
       have hb := HBW.out _ (HBW.out _ (HBW.out _ (HBW.out _ (HBW.out _ (HBW.out _ (HBW.out _ (HBW.out _ (HBW.out _ (HBW.out _ HBL.out 0 (.int .i64 0)) 1 (.int .i64 0)) 2 (.int .i64 0)) 3 (.int .i64 0)) 4 (.slice none 0 0)) 5 (.slice none 0 0)) 6 (.int .i64 0)) 7 (.slice none 0 0)) 8 (.slice none 0 0)) 9 (.int .i64 0)
       exact at_ret _ [Cnf.zero.v, .bool false] Try.results46 (.cons (.cell (cs := Cnf.zero.cs) (b := w.heap.size) (off := 0) rfl rfl (cells_of_block (cnf_set2 Cnf.zero Cnf.zero Z0.out)) Try.underlying41 rfl (by kernel_rfl)) (.cons (.tmp rfl) .nil)) rfl ⟨Cnf.zero, false, rfl, hb, fun h => (by cases h), fun _ => ⟨rfl, HF.out (by simp)⟩⟩
      | nil =>
       obtain ⟨hput, h64⟩ := HY.out rfl rfl
       have HPUT := Kept.mk hput
       have H64 := Kept.mk h64
       simp only [List.length_nil] at Yg hc3
       obtain ⟨s1A, s1N, s1C⟩ := s1
       obtain ⟨s2A, s2N, s2C⟩ := s2
       obtain ⟨sbA, sbN, sbC⟩ := sb
       obtain ⟨s3A, s3N, s3C⟩ := s3
       clear hput h64 HY HF
       go_wp2_with fail
       have hb := HBW.out _ (HBW.out _ (HBW.out _ (HBW.out _ (HBW.out _ (HBW.out _ (HBW.out _ (HBW.out _ (HBW.out _ (HBW.out _ HBL.out 0 (.int .i64 x0)) 1 (.int .i64 x1)) 2 (.int .i64 x2)) 3 (.int .i64 x3)) 4 (.slice s1A s1N s1C)) 5 (.slice s2A s2N s2C)) 6 (.int .i64 x6)) 7 (.slice sbA sbN sbC)) 8 (.slice s3A s3N s3C)) 9 (.int .i64 x9)
       have ho1 := OwnI.is (s := ⟨s1A, s1N, s1C⟩) (own10I (g := w.heap.size) (⟨⟨x0, x1, x2, x3, ⟨s1A, s1N, s1C⟩, ⟨s2A, s2N, s2C⟩, x6⟩, ⟨sbA, sbN, sbC⟩, ⟨s3A, s3N, s3C⟩, x9⟩ : Cnf) HO1.out hwB)
       have ho2 := OwnI.is (s := ⟨s2A, s2N, s2C⟩) (own10I (g := w.heap.size) (⟨⟨x0, x1, x2, x3, ⟨s1A, s1N, s1C⟩, ⟨s2A, s2N, s2C⟩, x6⟩, ⟨sbA, sbN, sbC⟩, ⟨s3A, s3N, s3C⟩, x9⟩ : Cnf) HO2.out hwB)
       have ho3 := OwnI.is (s := ⟨s3A, s3N, s3C⟩) (own10I (g := w.heap.size) (⟨⟨x0, x1, x2, x3, ⟨s1A, s1N, s1C⟩, ⟨s2A, s2N, s2C⟩, x6⟩, ⟨sbA, sbN, sbC⟩, ⟨s3A, s3N, s3C⟩, x9⟩ : Cnf) HO3.out hwB)
       have hob := own10 (g := w.heap.size) (⟨⟨x0, x1, x2, x3, ⟨s1A, s1N, s1C⟩, ⟨s2A, s2N, s2C⟩, x6⟩, ⟨sbA, sbN, sbC⟩, ⟨s3A, s3N, s3C⟩, x9⟩ : Cnf) HOB.out hwB
       have hres := cnf_set2 Cnf.zero (⟨⟨x0, x1, x2, x3, ⟨s1A, s1N, s1C⟩, ⟨s2A, s2N, s2C⟩, x6⟩, ⟨sbA, sbN, sbC⟩, ⟨s3A, s3N, s3C⟩, x9⟩ : Cnf) Z0.out
       dsimp only at ho1 ho2 ho3 hob hres
       refine at_ret _ [Cnf.v (⟨⟨x0, x1, x2, x3, ⟨s1A, s1N, s1C⟩, ⟨s2A, s2N, s2C⟩, x6⟩, ⟨sbA, sbN, sbC⟩, ⟨s3A, s3N, s3C⟩, x9⟩ : Cnf), .bool true] Try.results46 (.cons (.cell (cs := Cnf.cs (⟨⟨x0, x1, x2, x3, ⟨s1A, s1N, s1C⟩, ⟨s2A, s2N, s2C⟩, x6⟩, ⟨sbA, sbN, sbC⟩, ⟨s3A, s3N, s3C⟩, x9⟩ : Cnf)) (b := w.heap.size) (off := 0) rfl rfl (cells_of_block hres) Try.underlying41 rfl (by kernel_rfl)) (.cons (.tmp rfl) .nil)) rfl ⟨(⟨⟨x0, x1, x2, x3, ⟨s1A, s1N, s1C⟩, ⟨s2A, s2N, s2C⟩, x6⟩, ⟨sbA, sbN, sbC⟩, ⟨s3A, s3N, s3C⟩, x9⟩ : Cnf), true, rfl, hb, fun _ => ⟨rc, ?_, ?_, HPUT.out, H64.out, ?_⟩, fun h => (by cases h)⟩
       ·rw [HRC.out]
        exact ⟨⟨rfl, rfl, rfl, rfl, ho1, ho2, rfl⟩, OwnE.is (s := ⟨sbA, sbN, sbC⟩) hob, ho3, rfl⟩
       ·rw [HRC.out]
        exact OwnE.lower hob (Nat.le_of_lt hwB)
       ·rw [← HPUT.out]
        exact (putL_length_le (cfInts rc)).1
end Go.Proofs.Ytchldbkjapnlcaa
end
