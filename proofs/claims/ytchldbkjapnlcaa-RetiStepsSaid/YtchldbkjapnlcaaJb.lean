/- retb.Push, Pop; the document's SameInts. Instructions and programs in memory; seqm.At. retb.Real: what returns come to. A number masked by a row of ones is its rest. Arguments opened: a slice of entries, of numbers, an entry by value, as lists. -/
import Derived.Test.YtchldbkjapnlcaaJa
import Derived.Lib.MinMax
import Derived.BigQuiet
import Derived.Lib.SmallJoins
import Derived.Deep.Slices
import Derived.Deep.Fields
import Derived.ChangeSame
import Derived.OpenShut
set_option linter.unusedVariables false
set_option linter.unusedSimpArgs false
namespace Go.Proofs.Ytchldbkjapnlcaa
open Go.RowKit
section
theorem cut_int_to {w : World} {A : Option Addr} {l : List Int} (h : RdI w A l) {c : Nat} (hc : l.length ≤ c) (k : Nat) (hk : k ≤ l.length) :
  (∀ w1, (Instr.slice 22 (.slice A l.length c) none (some (.int .i64 (k : Int))) none).run Try.prog w1 = .ok (.slice A k c) w1) ∧ RdI w A (l.take k) := by
 obtain ⟨i, hi, _, hs, _⟩ := info_parts q2C
 refine ⟨fun w1 => ?_, h.to hk⟩
 have := run_cut_to (P := Try.prog) 22 3 i Try.underlying22 hi A l.length c (k : Int) (by omega) (by omega) hc w1
 simpa using this
set_option maxHeartbeats 800000 in
theorem same_ints (A A' : Option Addr) (c c' : Nat) (l m : List Int) (w : World) (hr : RdI w A l) (hr' : RdI w A' m) (hc : l.length ≤ 1000000) :
  Calls Try.prog 20 #[.slice A l.length c, .slice A' m.length c'] w fun en w' => en = .returned (.bool (decide (l = m))) ∧ Below w.heap.size w w' := by
 have HR := Kept.mk hr
 have HR' := Kept.mk hr'
 clear hr hr'
 by_cases hl : l.length = m.length
 ·have HL := Kept.mk hl
  have hlb : ((l.length : Int) != (m.length : Int)) = false := by rw [hl]; simp
  have hcm : m.length ≤ 1000000 := by omega
  clear hl
  go_enter Try.func20, Try.ntmps20
  go_wp2_with fail
  go_loopw [5] (fun i wr => ∃ k : Nat, k ≤ l.length ∧ i = .int .i64 k ∧ Kept (l.take k = m.take k) ∧ Below w.heap.size w wr) (fun i _ => l.length - (intOf i).toNat)
  case atStart => exact ⟨0, Nat.zero_le _, rfl, ⟨by simp⟩, Below.refl _ _⟩
  case round =>
   obtain ⟨k, hk, rfl, ht, hb⟩ := hrel
   by_cases hlt : k < l.length
   ·have hlm : k < m.length := by have := HL.out; omega
    obtain ⟨b, o, rfl, hb1, q0⟩ := (HR.out.past hb).at_ hlt
    obtain ⟨b', o', rfl, hb2, r0⟩ := (HR'.out.past hb).at_ hlm
    have HB := Kept.mk hb
    clear hb
    by_cases he : l[k] = m[k]
    ·have hd : (l[k] != m[k]) = false := by simp [he]
     have HE := Kept.mk he
     clear he
     go_wp2_with fail
     go_quiet (fail)
     go_wp2_with fail
     go_roundw
     case rel => exact ⟨k + 1, by omega, by go_num, ⟨(take_step hlt hlm ht.out).2 HE.out⟩, below_drewN HB.out _⟩
     case measure => simp [intOf]; omega
    ·have hd : (l[k] != m[k]) = true := by simp [he]
     have HE := Kept.mk he
     clear he
     go_wp2_with fail
     go_quiet (fail)
     go_wp2_with fail
     go_ret
     exact ⟨by simp [take_ne hlt hlm HE.out], below_drewN HB.out _⟩
   ·have hke : l.take k = l := List.take_of_length_le (by omega)
    have hkm : m.take k = m := List.take_of_length_le (by have := HL.out; omega)
    have HK := Kept.mk hke
    have HM := Kept.mk hkm
    have HB := Kept.mk hb
    clear hke hkm hb
    go_wp2_with fail
    go_ret
    have he : l = m := by have := ht.out; rw [HK.out, HM.out] at this; exact this
    exact ⟨by simp [he], HB.out⟩
 ·have hlb : ((l.length : Int) != (m.length : Int)) = true := by simp; omega
  go_enter Try.func20, Try.ntmps20
  go_wp2_with fail
  go_ret
  have hne : l ≠ m := fun h => hl (by rw [h])
  exact ⟨by simp [hne], Below.refl _ _⟩
def lastTwo (l : List Int) : List Int := l.drop (l.length - 2)
set_option maxHeartbeats 800000 in
theorem rpop_some (A : Option Addr) (c k : Nat) (l : List Int) (w : World) (hl : l.length = k + 1) (hc : k + 1 ≤ c) (hr : RdI w A l) (hn : k < 1000000) :
  Calls Try.prog 19 #[.slice A (k + 1) c] w fun en w' => ∃ v, en = .returned (.tuple #[.int .i64 (l[k]'(by omega)), v, .bool true]) ∧ OwnI w' w.heap.size v (l.take k) ∧ Below w.heap.size w w' := by
 obtain ⟨hcut, hr1⟩ := cut_int_to hr (by rw [hl]; exact hc) k (by omega)
 rw [hl] at hcut
 obtain ⟨b, o, rfl, hb1, q0⟩ := hr.at_ (i := k) (by omega)
 have hq : ∀ w1, Below w.heap.size w w1 → w1.cell? ⟨b, o + k, none⟩ = some (.int .i64 (l[k]'(by omega))) := fun w1 h => by rw [h.cell (p := ⟨b, o + k, none⟩) hb1]; exact q0
 have HR := Kept.mk hr
 have HL := Kept.mk hl
 clear hr q0
 go_enter Try.func19, Try.ntmps19
 go_wp2_with fail
 refine q1E w.heap.size (G := fun _ => True) (ts := [
   .is (.slice (some ⟨b, o, none⟩) (k + 1) c),
   .is (.int .i64 ((k : Int) + 1)),
   .is (.int .i64 k),
   .is (.pointer (some ⟨b, o + k, none⟩)),
   .is (.int .i64 (l[k]'(by omega))),
   .is (.slice (some ⟨b, o, none⟩) (k + 1) c),
   .is (.int .i64 ((k : Int) + 1)),
   .is (.int .i64 k),
   .is (.slice (some ⟨b, o, none⟩) k c),
   .makes (fun v w' => OwnI w' w.heap.size v (l.take k)),
   .is (.int .i64 (l[k]'(by omega))),
   .gets (fun v w' => OwnI w' w.heap.size v (l.take k)),
   .is (.bool true)]) (fin := [11]) (cs := []) (by kernel_rfl) rfl (by kernel_rfl) (by kernel_rfl) ⟨trivial, trivial, trivial, trivial, trivial, trivial, trivial, trivial, trivial, OwnI.grows, trivial, OwnI.grows, trivial, trivial⟩ (fun _ _ _ _ => trivial) (by simp) (by simp) trivial
  ⟨?_, ?_, ?_, ?_, ?_, ?_, ?_, ?_, ?_, ?_, ?_, ?_, ?_, trivial⟩ ?_
 ·intro vals w1 hB _ _
  refine q02 (v := Value.slice (some ⟨b, o, Option.none⟩) (k + 1) c) rfl ?_ ?_
  ·kernel_rfl
  ·exact q04 rfl
 ·intro vals w1 hB _ _
  refine q02 (v := Value.int .i64 ((k : Int) + 1)) rfl ?_ ?_
  ·kernel_rfl
  ·exact q04 rfl
 ·intro vals w1 hB _ _
  refine q02 (v := Value.int .i64 (k : Int)) rfl ?_ ?_
  ·simp only [fillT, Tell.is, Act.put, List.setIfInBounds_toArray, List.set_cons_zero, List.set_cons_succ]; go_simp
   exact IntWalk.i64_in _ (by omega)
  ·exact q04 rfl
 ·intro vals w1 hB _ _
  refine q02 (v := Value.pointer (some ⟨b, o + k, Option.none⟩)) rfl ?_ ?_
  ·simp only [fillT, Tell.is, Act.put, List.setIfInBounds_toArray, List.set_cons_zero, List.set_cons_succ]; go_simp
   intro h
   omega
  ·exact q04 rfl
 ·intro vals w1 hB _ _
  refine q02 (v := Value.int .i64 (l[k]'(by omega))) rfl ?_ ?_
  ·have hq1 := hq w1 hB; simp only [fillT, Tell.is, Act.put, List.setIfInBounds_toArray, List.set_cons_zero, List.set_cons_succ]; go_simp
  ·exact q04 rfl
 ·intro vals w1 hB _ _
  refine q02 (v := Value.slice (some ⟨b, o, Option.none⟩) (k + 1) c) rfl ?_ ?_
  ·kernel_rfl
  ·exact q04 rfl
 ·intro vals w1 hB _ _
  refine q02 (v := Value.int .i64 ((k : Int) + 1)) rfl ?_ ?_
  ·kernel_rfl
  ·exact q04 rfl
 ·intro vals w1 hB _ _
  refine q02 (v := Value.int .i64 (k : Int)) rfl ?_ ?_
  ·simp only [fillT, Tell.is, Act.put, List.setIfInBounds_toArray, List.set_cons_zero, List.set_cons_succ]; go_simp
   exact IntWalk.i64_in _ (by omega)
  ·exact q04 rfl
 ·intro vals w1 hB _ _
  refine q02 (v := Value.slice (some ⟨b, o, Option.none⟩) k c) rfl ?_ ?_
  ·simp only [fillT, Tell.is, Act.put, List.setIfInBounds_toArray, List.set_cons_zero, List.set_cons_succ]; go_simp
  ·exact q04 rfl
 ·intro vals w1 hB _ _
  refine q12 (f := 54) (args := #[.slice (some ⟨b, o, Option.none⟩) k c]) (w1 := w1) rfl ?_ ?_
  ·kernel_rfl
  refine (clone_int_at (some ⟨b, o, Option.none⟩) k c (l.take k) w1 (by simp [HL.out]) (hr1.past hB) (by omega)).mono ?_
  rintro e1 w2 ⟨v, rfl, h1, h2⟩
  exact ⟨v, rfl, q21 rfl (OwnI.lower h1 hB.size) h2⟩
 ·intro vals w1 hB _ _
  refine q02 (v := Value.int .i64 (l[k]'(by omega))) rfl ?_ ?_
  ·kernel_rfl
  ·exact q04 rfl
 ·intro vals w1 hB _ hd
  refine q02 (v := vals 9) rfl ?_ ?_
  ·kernel_rfl
  ·exact q0B rfl (hd 9 (by kernel_rfl))
 ·intro vals w1 hB _ _
  refine q02 (v := Value.bool true) rfl ?_ ?_
  ·kernel_rfl
  ·exact q04 rfl
 ·intro vals w1 hB _ hr
  have h11 : OwnI w1 w.heap.size (vals 11) (l.take k) := hr 11 (by simp) (by simp)
  clear hr
  simp only [fillT, Tell.is, Tell.makes, Tell.gets, Act.put, List.setIfInBounds_toArray, List.set_cons_zero, List.set_cons_succ]
  go_wp2
  exact q0C _ [.int .i64 (l[k]'(by omega)), vals 11, .bool true] Try.results19 (.cons (.tmp rfl) (.cons (.tmp rfl) (.cons (.tmp rfl) .nil))) rfl ⟨_, rfl, h11, hB⟩
end
section
structure Inst where
 kind : Int
 op : Int
 d : Int
 ar : Bool
 an : Int
 br : Bool
 bn : Int
 name : ByteArray
 target : Int
def Inst.cs (e : Inst) : List Value := [.int .i64 e.kind, .int .i64 e.op, .int .i64 e.d, .bool e.ar, .int .i64 e.an, .bool e.br, .int .i64 e.bn, .string e.name, .int .i64 e.target]
@[go_sem] def Inst.v (e : Inst) : Value := .agg #[.int .i64 e.kind, .int .i64 e.op, .int .i64 e.d, .bool e.ar, .int .i64 e.an, .bool e.br, .int .i64 e.bn, .string e.name, .int .i64 e.target]
def Inst.fault : Inst := ⟨12, 0, 0, false, 0, false, 0, ⟨#[]⟩, 0⟩
def instCs (l : List Inst) : List Value := l.flatMap Inst.cs
theorem Inst.cs_length (e : Inst) : e.cs.length = 9 := rfl
theorem instCs_get (l : List Inst) (i : Nat) (h : i < l.length) (j : Nat) (hj : j < 9) : (instCs l)[i * 9 + j]? = l[i].cs[j]? := by
 induction l generalizing i with
 | nil => simp at h
 | cons e l ih =>
  simp only [instCs, List.flatMap_cons]
  cases i with
  | zero => rw [List.getElem?_append_left (by rw [Inst.cs_length]; omega)]; simp
  | succ i =>
   rw [List.getElem?_append_right (by rw [Inst.cs_length]; omega), Inst.cs_length, show (i + 1) * 9 + j - 9 = i * 9 + j by omega]
   exact ih i (by simpa using h)
def RdN (w : World) (A : Option Addr) (l : List Inst) : Prop := Reads w w.heap.size 9 A l.length (instCs l)
theorem RdN.past {w w' : World} {A : Option Addr} {l : List Inst} (h : RdN w A l) (hb : Below w.heap.size w w') : RdN w' A l := Reads.past h hb
def InstAt (w : World) (b o : Nat) (e : Inst) : Prop :=
 w.cell? ⟨b, o, none⟩ = some (.int .i64 e.kind) ∧ w.cell? ⟨b, o + 1, none⟩ = some (.int .i64 e.op) ∧ w.cell? ⟨b, o + 2, none⟩ = some (.int .i64 e.d) ∧ w.cell? ⟨b, o + 3, none⟩ = some (.bool e.ar) ∧
 w.cell? ⟨b, o + 4, none⟩ = some (.int .i64 e.an) ∧ w.cell? ⟨b, o + 5, none⟩ = some (.bool e.br) ∧ w.cell? ⟨b, o + 6, none⟩ = some (.int .i64 e.bn) ∧ w.cell? ⟨b, o + 7, none⟩ = some (.string e.name) ∧ w.cell? ⟨b, o + 8, none⟩ = some (.int .i64 e.target)
theorem InstAt.of_cells {w : World} {b o : Nat} {e : Inst} (h : ∀ j u, j < 9 → e.cs[j]? = some u → w.cell? ⟨b, o + j, none⟩ = some u) : InstAt w b o e :=
 ⟨h 0 _ (by omega) rfl, h 1 _ (by omega) rfl, h 2 _ (by omega) rfl, h 3 _ (by omega) rfl, h 4 _ (by omega) rfl, h 5 _ (by omega) rfl, h 6 _ (by omega) rfl, h 7 _ (by omega) rfl, h 8 _ (by omega) rfl⟩
theorem RdN.elem {w : World} {A : Option Addr} {l : List Inst} (h : RdN w A l) {k : Nat} (hk : k < l.length) : ∃ b o, A = some ⟨b, o, none⟩ ∧ b < w.heap.size ∧ InstAt w b (o + k * 9) l[k] := by
 obtain ⟨b, o, e, hb, hc⟩ := Reads.cells h hk
 exact ⟨b, o, e, hb, InstAt.of_cells fun j u hj hu => by rw [Nat.add_assoc]; exact hc j u hj (by rw [instCs_get l k hk j hj]; exact hu)⟩
structure Prg where
 W : Int
 window : Int
 fuel : Int
 r0 : Int
 r1 : Int
 r2 : Int
 r3 : Int
 mems : Value
 labels : Value
 A : Option Addr
 n : Nat
 c : Nat
def Prg.cs (p : Prg) : List Value := [.int .i64 p.W, .int .i64 p.window, .int .i64 p.fuel, .int .i64 p.r0, .int .i64 p.r1, .int .i64 p.r2, .int .i64 p.r3, p.mems, p.labels, .slice p.A p.n p.c]
@[go_sem] def Prg.v (p : Prg) : Value := .agg #[.int .i64 p.W, .int .i64 p.window, .int .i64 p.fuel, .int .i64 p.r0, .int .i64 p.r1, .int .i64 p.r2, .int .i64 p.r3, p.mems, p.labels, .slice p.A p.n p.c]
def instAt (l : List Inst) (pc : Int) : Inst := if pc < 0 then Inst.fault else (l[pc.toNat]?).getD Inst.fault
set_option maxRecDepth 100000 in
set_option maxHeartbeats 1000000 in
theorem at_in (p : Prg) (l : List Inst) (k : Nat) (w : World) (hn : p.n = l.length) (hm : p.n ≤ 1000000) (hk : k < l.length) (hr : RdN w p.A l) :
  Calls Try.prog 61 #[p.v, .int .i64 k] w fun en w' => en = .returned l[k].v ∧ Below w.heap.size w w' := by
 obtain ⟨W, win, fuel, r0, r1, r2, r3, mems, labels, A, n, c⟩ := p
 simp only at hn hm hr
 subst hn
 obtain ⟨b, o, rfl, hb, e0, e1, e2, e3, e4, e5, e6, e7, e8⟩ := hr.elem hk
 have hbne : b ≠ w.heap.size := by omega
 clear hr
 go_enter Try.func61, Try.ntmps61
 go_wp2_with fail
 refine q0C _ [l[k].v] Try.results61 (.cons (.cell (cs := l[k].cs) (b := w.heap.size + 1) (off := 0) rfl rfl (q05 (q06 (by simp))) Try.underlying53 rfl (by kernel_rfl)) .nil) rfl ⟨rfl, ?_⟩
 exact (q00 w _).alloc (by simp) _
set_option maxRecDepth 100000 in
set_option maxHeartbeats 1000000 in
theorem at_out (p : Prg) (pc : Int) (w : World) (hm : p.n ≤ 1000000) (hk : pc < 0 ∨ (p.n : Int) ≤ pc) :
  Calls Try.prog 61 #[p.v, .int .i64 pc] w fun en w' => en = .returned Inst.fault.v ∧ Below w.heap.size w w' := by
 obtain ⟨W, win, fuel, r0, r1, r2, r3, mems, labels, A, n, c⟩ := p
 simp only at hm hk
 by_cases h : pc < 0
 ·go_enter Try.func61, Try.ntmps61
  go_wp2_with fail
  refine q0C _ [Inst.fault.v] Try.results61 (.cons (.cell (cs := Inst.fault.cs) (b := w.heap.size + 1) (off := 0) rfl rfl (q05 (q06 (by simp))) Try.underlying53 rfl (by kernel_rfl)) .nil) rfl ⟨rfl, ?_⟩
  exact (q00 w _).alloc (by simp) _
 ·have h2 : (n : Int) ≤ pc := by omega
  clear hk
  go_enter Try.func61, Try.ntmps61
  go_wp2_with fail
  refine q0C _ [Inst.fault.v] Try.results61 (.cons (.cell (cs := Inst.fault.cs) (b := w.heap.size + 1) (off := 0) rfl rfl (q05 (q06 (by simp))) Try.underlying53 rfl (by kernel_rfl)) .nil) rfl ⟨rfl, ?_⟩
  exact (q00 w _).alloc (by simp) _
theorem at_any (p : Prg) (l : List Inst) (pc : Int) (w : World) (hn : p.n = l.length) (hm : p.n ≤ 1000000) (hr : RdN w p.A l) :
  Calls Try.prog 61 #[p.v, .int .i64 pc] w fun en w' => en = .returned (instAt l pc).v ∧ Below w.heap.size w w' := by
 unfold instAt
 split
 ·exact at_out p pc w hm (.inl (by assumption))
 ·by_cases h : pc < l.length
  ·obtain ⟨k, rfl⟩ := Int.eq_ofNat_of_zero_le (show 0 ≤ pc by omega)
   have hk : k < l.length := by omega
   rw [Int.toNat_natCast, List.getElem?_eq_getElem hk]
   exact at_in p l k w hn hm hk hr
  ·rw [List.getElem?_eq_none (by omega)]
   exact at_out p pc w hm (.inr (by omega))
@[go_sem] theorem run_inst_kind (a b c d e f g h i : Value) (w : World) : (Instr.field 53 (.agg #[a, b, c, d, e, f, g, h, i]) 0).run Try.prog w = .ok a w := by kernel_rfl
theorem own_take {w : World} {base : Nat} {e : TypeId} {size : Nat} {A : Option Addr} {n c k : Nat} {xs : List Value} (h : w.ownsRow base e size (.slice A n c) n xs) (hk : k ≤ n) : w.ownsRow base e size (.slice A k c) k (xs.take (k * size)) := by
 refine ⟨by rw [List.length_take, h.1]; exact Nat.min_eq_left (Nat.mul_le_mul_right _ hk), ?_⟩
 rcases h.2 with ⟨hv, h0⟩ | ⟨g, cap, cur, hv, hg, hh, hc, hm, hs, rfl⟩
 ·simp at hv
  obtain ⟨rfl, rfl, rfl⟩ := hv
  exact .inl ⟨by simp [show k = 0 by omega], by omega⟩
 ·simp at hv
  obtain ⟨rfl, rfl⟩ := hv
  refine .inr ⟨g, c, cur, rfl, hg, hh, by omega, hm, hs, ?_⟩
  rw [List.take_take, Nat.min_eq_left (Nat.mul_le_mul_right _ hk)]
theorem OwnI.take {w : World} {B : Nat} {A : Option Addr} {c k n : Nat} {l : List Int} (h : OwnI w B (.slice A n c) l) (hn : l.length = n) (hk : k ≤ n) : OwnI w B (.slice A k c) (l.take k) := by
 subst hn
 have := own_take h hk
 unfold OwnI
 rw [List.length_take, Nat.min_eq_left hk]
 simpa [intCs, List.map_take] using this
theorem OwnE.take {w : World} {B : Nat} {A : Option Addr} {c k n : Nat} {l : List Ent} (h : OwnE w B (.slice A n c) l) (hn : l.length = n) (hk : k ≤ n) : OwnE w B (.slice A k c) (l.take k) := by
 subst hn
 have := own_take h hk
 unfold OwnE
 rw [List.length_take, Nat.min_eq_left hk]
 rwa [entCs_take l k hk] at this
end
section
def realOf (il : List Inst) : List Int → List Ent → Option (List Int)
 | s, [] => some s
 | s, e :: l =>
  if (instAt il e.pc).kind = 8 then (if 4 ≤ s.length then none else realOf il (s ++ [e.pc + 1]) l)
  else if (instAt il e.pc).kind = 9 then (if s.length = 0 then none else realOf il (s.take (s.length - 1)) l)
  else realOf il s l
structure RealPost (r : Option (List Int)) (w : World) (en : Ending) (w' : World) : Prop where
 out : ∃ v, en = .returned (.tuple #[v, .bool r.isSome]) ∧ (match r with | some s => OwnI w' w.heap.size v s | none => v = .slice none 0 0) ∧ Below w.heap.size w w'
theorem RealPost.no {r : Option (List Int)} {w w' : World} (h : r = none) (hb : Below w.heap.size w w') : RealPost r w (.returned (.tuple #[.slice none 0 0, .bool false])) w' := by
 subst h
 exact ⟨⟨_, rfl, rfl, hb⟩⟩
theorem RealPost.yes {r : Option (List Int)} {w w' : World} {v : Value} {s : List Int} (h : r = some s) (ho : OwnI w' w.heap.size v s) (hb : Below w.heap.size w w') : RealPost r w (.returned (.tuple #[v, .bool true])) w' := by
 subst h
 exact ⟨⟨_, rfl, ho, hb⟩⟩
theorem inst_bound {il : List Inst} {pc : Int} (h : (instAt il pc).kind ≠ 12) : 0 ≤ pc ∧ pc < il.length := by
 unfold instAt at h
 split at h
 ·exact absurd rfl h
 ·by_cases hx : pc.toNat < il.length
  ·omega
  ·rw [List.getElem?_eq_none (by omega)] at h
   exact absurd rfl h
end
section
theorem i64_and1 (n : Int) : bits .and .i64 n 1 = n % 2 := by
 have h : (BitVec.ofInt 64 1).toNat = 2 ^ 1 - 1 := by decide
 have key : (BitVec.ofInt 64 n &&& BitVec.ofInt 64 1).toNat = (n % ((2 ^ 64 : Nat) : Int)).toNat % 2 ^ 1 := by
  rw [BitVec.toNat_and, BitVec.toNat_ofInt, h, Nat.and_two_pow_sub_one_eq_mod]
 show IntKind.i64.wrap ((BitVec.ofInt 64 n &&& BitVec.ofInt 64 1).toNat : Nat) = n % 2
 rw [key, IntKind.wrap_i64]
 omega
theorem mask1 (n : Int) : ∃ M : Int, bits .and .i64 n 1 = M ∧ 0 ≤ M ∧ M ≤ 1 := ⟨n % 2, i64_and1 n, by omega, by omega⟩
theorem i64_and3 (n : Int) : bits .and .i64 n 3 = n % 4 := by
 have h : (BitVec.ofInt 64 3).toNat = 2 ^ 2 - 1 := by decide
 have key : (BitVec.ofInt 64 n &&& BitVec.ofInt 64 3).toNat = (n % ((2 ^ 64 : Nat) : Int)).toNat % 2 ^ 2 := by
  rw [BitVec.toNat_and, BitVec.toNat_ofInt, h, Nat.and_two_pow_sub_one_eq_mod]
 show IntKind.i64.wrap ((BitVec.ofInt 64 n &&& BitVec.ofInt 64 3).toNat : Nat) = n % 4
 rw [key, IntKind.wrap_i64]
 omega
theorem mask3 (n : Int) : ∃ M : Int, bits .and .i64 n 3 = M ∧ 0 ≤ M ∧ M ≤ 3 := ⟨n % 4, i64_and3 n, by omega, by omega⟩
theorem i64_and255 (n : Int) : bits .and .i64 n 255 = n % 256 := by
 have h : (BitVec.ofInt 64 255).toNat = 2 ^ 8 - 1 := by decide
 have key : (BitVec.ofInt 64 n &&& BitVec.ofInt 64 255).toNat = (n % ((2 ^ 64 : Nat) : Int)).toNat % 2 ^ 8 := by
  rw [BitVec.toNat_and, BitVec.toNat_ofInt, h, Nat.and_two_pow_sub_one_eq_mod]
 show IntKind.i64.wrap ((BitVec.ofInt 64 n &&& BitVec.ofInt 64 255).toNat : Nat) = n % 256
 rw [key, IntKind.wrap_i64]
 omega
theorem mask255 (n : Int) : ∃ M : Int, bits .and .i64 n 255 = M ∧ 0 ≤ M ∧ M ≤ 255 := ⟨n % 256, i64_and255 n, by omega, by omega⟩
theorem i64_and65535 (n : Int) : bits .and .i64 n 65535 = n % 65536 := by
 have h : (BitVec.ofInt 64 65535).toNat = 2 ^ 16 - 1 := by decide
 have key : (BitVec.ofInt 64 n &&& BitVec.ofInt 64 65535).toNat = (n % ((2 ^ 64 : Nat) : Int)).toNat % 2 ^ 16 := by
  rw [BitVec.toNat_and, BitVec.toNat_ofInt, h, Nat.and_two_pow_sub_one_eq_mod]
 show IntKind.i64.wrap ((BitVec.ofInt 64 n &&& BitVec.ofInt 64 65535).toNat : Nat) = n % 65536
 rw [key, IntKind.wrap_i64]
 omega
end
section
open Go.RowKit Go.Joins Go.ChangeShapes Go.WideShapes Go.Deep
section
variable {H : Type} {enc : TypeId × Value → H} {P : Program} {w : World} {base : Nat} {spare : Nat → Bool} {held : Bool}
end
theorem add_spot {w : World} {a : Addr} {j : Nat} {v : Value} (h : w.cell? (a.add j) = some v) (h0 : a.spot = none) : w.cell? ⟨a.block, a.off + j, none⟩ = some v := by
 obtain ⟨b, o, s⟩ := a
 cases h0
 rwa [Addr.add_lit] at h
theorem spot_none {w : World} {a : Addr} {v : Value} (h : w.cell? a = some v) : a.spot = none := by
 unfold World.cell? at h
 split at h
 ·split at h
  ·cases h
  ·rename_i hs
   simpa using hs
 ·cases h
section
variable {H : Type} {enc : TypeId × Value → H} {W : World} {t : TypeId} {v : Value} {d : DataW H} {ps : List MemPlace}
set_option maxRecDepth 100000 in
theorem open_nums {base : Nat} (hv : Value.okWide Try.prog W .any base 22 v) (h : DataW.Trod enc Try.prog W 0 (fun _ => true) true 22 v d ps) :
  ∃ (A : Option Addr) (c : Nat) (l : List Int), v = .slice A l.length c ∧ l.length ≤ c ∧ c ≤ maxLen ∧ RdI W A l ∧ ∀ n ∈ l, -9223372036854775808 ≤ n ∧ n ≤ 9223372036854775807 := by
 obtain ⟨a0, len, cap, rfl⟩ := okWide_slice Try.underlying22 hv
 obtain ⟨fuel, hf⟩ := h
 rcases open_ints Try.underlying22 Try.underlying3 (by kernel_rfl) hf with ⟨hcs, _⟩ | ⟨a, n, c, zs, hcs, _, hl, hm, hz, _, hcell, hwz⟩
 ·simp [Value.cells] at hcs
  obtain ⟨rfl, rfl, rfl⟩ := hcs
  exact ⟨none, 0, [], rfl, by simp, by simp, Reads.none_, by simp⟩
 ·simp [Value.cells] at hcs
  obtain ⟨rfl, rfl, rfl⟩ := hcs
  simp only [if_true] at hz
  have hlen : (zs.take len).length = len := by rw [List.length_take]; omega
  have hc : ∀ i, i < len → W.cell? (a.add i) = some (.int .i64 (zs.getD i 0)) := fun i hi => hcell i (by omega)
  refine ⟨some a, cap, zs.take len, by rw [hlen], by omega, hm, ⟨by simp [intCs], fun hn => ?_⟩, fun n hn => bounds_i64 (hwz n (List.mem_of_mem_take hn))⟩
  rw [hlen] at hn
  have h0 := hc 0 hn
  have hs : a.spot = none := spot_none (by simpa [Addr.add] using h0)
  refine ⟨a, rfl, hs, block_lt_of_cell (by simpa [Addr.add] using h0), fun j u hu => ?_⟩
  have hj : j < len := by
   have := (List.getElem?_eq_some_iff.1 hu).1
   rw [intCs_length, hlen] at this
   exact this
  have h1 := add_spot (hc j hj) hs
  rw [h1]
  simp only [intCs, List.getElem?_map, List.getElem?_take, hj, if_true] at hu
  rw [← hu]
  simp [List.getD, show j < zs.length by omega]
end
end
end Go.Proofs.Ytchldbkjapnlcaa
