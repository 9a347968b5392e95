/- Instructions and programs in memory; seqm.At. -/
import Derived.Test.YtdfcbfcnanpolaaRobc
import Derived.BigQuiet
namespace Go.Proofs.Ytdfcbfcnanpolaa
open Go.RowKit

structure Inst where
  kind : Int
  op : Int
  d : Int
  ar : Bool
  an : Int
  br : Bool
  bn : Int
  name : ByteArray
  target : Int
def Inst.cs (e : Inst) : List Value := [.int .i64 e.kind, .int .i64 e.op, .int .i64 e.d, .bool e.ar, .int .i64 e.an, .bool e.br, .int .i64 e.bn, .string e.name, .int .i64 e.target]
@[go_sem] def Inst.v (e : Inst) : Value := .agg #[.int .i64 e.kind, .int .i64 e.op, .int .i64 e.d, .bool e.ar, .int .i64 e.an, .bool e.br, .int .i64 e.bn, .string e.name, .int .i64 e.target]
def Inst.zero : Inst := ⟨0, 0, 0, false, 0, false, 0, ⟨#[]⟩, 0⟩
def Inst.fault : Inst := ⟨12, 0, 0, false, 0, false, 0, ⟨#[]⟩, 0⟩
def instCs (l : List Inst) : List Value := l.flatMap Inst.cs
theorem Inst.cs_length (e : Inst) : e.cs.length = 9 := rfl
theorem instCs_length (l : List Inst) : (instCs l).length = l.length * 9 := by
  induction l with
  | nil => rfl
  | cons e l ih => simp only [instCs, List.flatMap_cons, List.length_append, List.length_cons] at ih ⊢; rw [ih, Inst.cs_length]; omega
theorem instCs_get (l : List Inst) (i : Nat) (h : i < l.length) (j : Nat) (hj : j < 9) : (instCs l)[i * 9 + j]? = l[i].cs[j]? := by
  induction l generalizing i with
  | nil => simp at h
  | cons e l ih =>
    simp only [instCs, List.flatMap_cons]
    cases i with
    | zero => rw [List.getElem?_append_left (by rw [Inst.cs_length]; omega)]; simp
    | succ i =>
      rw [List.getElem?_append_right (by rw [Inst.cs_length]; omega), Inst.cs_length, show (i + 1) * 9 + j - 9 = i * 9 + j by omega]
      exact ih i (by simpa using h)
/-- A row of instructions. -/
def RdN (w : World) (A : Option Addr) (l : List Inst) : Prop := Reads w w.heap.size 9 A l.length (instCs l)
theorem RdN.past {w w' : World} {A : Option Addr} {l : List Inst} (h : RdN w A l) (hb : Below w.heap.size w w') : RdN w' A l := Reads.past h hb
theorem RdN.nil {w : World} : RdN w none [] := Reads.none_
def InstAt (w : World) (b o : Nat) (e : Inst) : Prop :=
  w.cell? ⟨b, o, none⟩ = some (.int .i64 e.kind) ∧ w.cell? ⟨b, o + 1, none⟩ = some (.int .i64 e.op) ∧ w.cell? ⟨b, o + 2, none⟩ = some (.int .i64 e.d) ∧ w.cell? ⟨b, o + 3, none⟩ = some (.bool e.ar) ∧
  w.cell? ⟨b, o + 4, none⟩ = some (.int .i64 e.an) ∧ w.cell? ⟨b, o + 5, none⟩ = some (.bool e.br) ∧ w.cell? ⟨b, o + 6, none⟩ = some (.int .i64 e.bn) ∧ w.cell? ⟨b, o + 7, none⟩ = some (.string e.name) ∧ w.cell? ⟨b, o + 8, none⟩ = some (.int .i64 e.target)
theorem InstAt.of_cells {w : World} {b o : Nat} {e : Inst} (h : ∀ j u, j < 9 → e.cs[j]? = some u → w.cell? ⟨b, o + j, none⟩ = some u) : InstAt w b o e :=
  ⟨h 0 _ (by omega) rfl, h 1 _ (by omega) rfl, h 2 _ (by omega) rfl, h 3 _ (by omega) rfl, h 4 _ (by omega) rfl, h 5 _ (by omega) rfl, h 6 _ (by omega) rfl, h 7 _ (by omega) rfl, h 8 _ (by omega) rfl⟩
theorem InstAt.cells {w : World} {b o : Nat} {e : Inst} (h : InstAt w b o e) : ∀ j u, e.cs[j]? = some u → w.cell? ⟨b, o + j, none⟩ = some u := by
  obtain ⟨h0, h1, h2, h3, h4, h5, h6, h7, h8⟩ := h
  intro j u hu
  match j, hu with
  | 0, hu => cases hu; exact h0
  | 1, hu => cases hu; exact h1
  | 2, hu => cases hu; exact h2
  | 3, hu => cases hu; exact h3
  | 4, hu => cases hu; exact h4
  | 5, hu => cases hu; exact h5
  | 6, hu => cases hu; exact h6
  | 7, hu => cases hu; exact h7
  | 8, hu => cases hu; exact h8
  | n + 9, hu => simp [Inst.cs] at hu
theorem RdN.elem {w : World} {A : Option Addr} {l : List Inst} (h : RdN w A l) {k : Nat} (hk : k < l.length) : ∃ b o, A = some ⟨b, o, none⟩ ∧ b < w.heap.size ∧ InstAt w b (o + k * 9) l[k] := by
  obtain ⟨b, o, e, hb, hc⟩ := Reads.cells h hk
  exact ⟨b, o, e, hb, InstAt.of_cells fun j u hj hu => by rw [Nat.add_assoc]; exact hc j u hj (by rw [instCs_get l k hk j hj]; exact hu)⟩
/-- A program: what its struct holds. -/
structure Prg where
  W : Int
  window : Int
  fuel : Int
  r0 : Int
  r1 : Int
  r2 : Int
  r3 : Int
  mems : Value
  labels : Value
  A : Option Addr
  n : Nat
  c : Nat
def Prg.cs (p : Prg) : List Value := [.int .i64 p.W, .int .i64 p.window, .int .i64 p.fuel, .int .i64 p.r0, .int .i64 p.r1, .int .i64 p.r2, .int .i64 p.r3, p.mems, p.labels, .slice p.A p.n p.c]
@[go_sem] def Prg.v (p : Prg) : Value := .agg #[.int .i64 p.W, .int .i64 p.window, .int .i64 p.fuel, .int .i64 p.r0, .int .i64 p.r1, .int .i64 p.r2, .int .i64 p.r3, p.mems, p.labels, .slice p.A p.n p.c]
/-- The instruction at a place. -/
def instAt (l : List Inst) (pc : Int) : Inst := if pc < 0 then Inst.fault else (l[pc.toNat]?).getD Inst.fault

theorem inst_set {w : World} {g : Nat} {t : TypeId} (old e : Inst) (h : w.heap[g]? = some (.cells old.cs.toArray t (0, 0))) :
    (((((((((w.setCell ⟨g, 0, none⟩ (.int .i64 e.kind)).setCell ⟨g, 1, none⟩ (.int .i64 e.op)).setCell ⟨g, 2, none⟩ (.int .i64 e.d)).setCell ⟨g, 3, none⟩ (.bool e.ar)).setCell ⟨g, 4, none⟩ (.int .i64 e.an)).setCell ⟨g, 5, none⟩ (.bool e.br)).setCell ⟨g, 6, none⟩ (.int .i64 e.bn)).setCell ⟨g, 7, none⟩ (.string e.name)).setCell ⟨g, 8, none⟩ (.int .i64 e.target)).heap[g]? =
      some (.cells e.cs.toArray t (0, 0)) := by
  rw [heap_setCell_same _ g 8 _ t _ (heap_setCell_same _ g 7 _ t _ (heap_setCell_same _ g 6 _ t _ (heap_setCell_same _ g 5 _ t _ (heap_setCell_same _ g 4 _ t _ (heap_setCell_same _ g 3 _ t _ (heap_setCell_same _ g 2 _ t _ (heap_setCell_same _ g 1 _ t _ (heap_setCell_same _ g 0 _ t _ h))))))))]
  simp [Inst.cs]
theorem InstAt.of_block {w : World} {g : Nat} {t : TypeId} {fr : Nat × Nat} {e : Inst} (h : w.heap[g]? = some (.cells e.cs.toArray t fr)) : InstAt w g 0 e := InstAt.of_cells fun j u _ hu => cells_of_block h j u hu

set_option maxRecDepth 100000 in
set_option maxHeartbeats 1000000 in
theorem at_in (p : Prg) (l : List Inst) (k : Nat) (w : World) (hn : p.n = l.length) (hm : p.n ≤ 1000000) (hk : k < l.length) (hr : RdN w p.A l) :
    Calls Try.prog 35 #[p.v, .int .i64 k] w fun en w' => en = .returned l[k].v ∧ Below w.heap.size w w' := by
  obtain ⟨W, win, fuel, r0, r1, r2, r3, mems, labels, A, n, c⟩ := p
  simp only at hn hm hr
  subst hn
  obtain ⟨b, o, rfl, hb, e0, e1, e2, e3, e4, e5, e6, e7, e8⟩ := hr.elem hk
  have hbne : b ≠ w.heap.size := by omega
  clear hr
  go_enter Try.func35, Try.ntmps35
  go_wp2_with fail
  refine at_ret _ [l[k].v] Try.results35 (.cons (.cell (cs := l[k].cs) (b := w.heap.size + 1) (off := 0) rfl rfl (cells_of_block (heap_at_new (by simp))) Try.underlying48 rfl (by kernel_rfl)) .nil) rfl ⟨rfl, ?_⟩
  exact (below_alloc_self w _).alloc (by simp) _
set_option maxRecDepth 100000 in
set_option maxHeartbeats 1000000 in
theorem at_out (p : Prg) (pc : Int) (w : World) (hm : p.n ≤ 1000000) (hk : pc < 0 ∨ (p.n : Int) ≤ pc) :
    Calls Try.prog 35 #[p.v, .int .i64 pc] w fun en w' => en = .returned Inst.fault.v ∧ Below w.heap.size w w' := by
  obtain ⟨W, win, fuel, r0, r1, r2, r3, mems, labels, A, n, c⟩ := p
  simp only at hm hk
  by_cases h : pc < 0
  · go_enter Try.func35, Try.ntmps35
    go_wp2_with fail
    refine at_ret _ [Inst.fault.v] Try.results35 (.cons (.cell (cs := Inst.fault.cs) (b := w.heap.size + 1) (off := 0) rfl rfl (cells_of_block (heap_at_new (by simp))) Try.underlying48 rfl (by kernel_rfl)) .nil) rfl ⟨rfl, ?_⟩
    exact (below_alloc_self w _).alloc (by simp) _
  · have h2 : (n : Int) ≤ pc := by omega
    clear hk
    go_enter Try.func35, Try.ntmps35
    go_wp2_with fail
    refine at_ret _ [Inst.fault.v] Try.results35 (.cons (.cell (cs := Inst.fault.cs) (b := w.heap.size + 1) (off := 0) rfl rfl (cells_of_block (heap_at_new (by simp))) Try.underlying48 rfl (by kernel_rfl)) .nil) rfl ⟨rfl, ?_⟩
    exact (below_alloc_self w _).alloc (by simp) _
theorem at_any (p : Prg) (l : List Inst) (pc : Int) (w : World) (hn : p.n = l.length) (hm : p.n ≤ 1000000) (hr : RdN w p.A l) :
    Calls Try.prog 35 #[p.v, .int .i64 pc] w fun en w' => en = .returned (instAt l pc).v ∧ Below w.heap.size w w' := by
  unfold instAt
  split
  · exact at_out p pc w hm (.inl (by assumption))
  · by_cases h : pc < l.length
    · obtain ⟨k, rfl⟩ := Int.eq_ofNat_of_zero_le (show 0 ≤ pc by omega)
      have hk : k < l.length := by omega
      rw [Int.toNat_natCast, List.getElem?_eq_getElem hk]
      exact at_in p l k w hn hm hk hr
    · rw [List.getElem?_eq_none (by omega)]
      exact at_out p pc w hm (.inr (by omega))
@[go_sem] theorem run_inst_kind (a b c d e f g h i : Value) (w : World) : (Instr.field 48 (.agg #[a, b, c, d, e, f, g, h, i]) 0).run Try.prog w = .ok a w := by kernel_rfl
/-- A row of the call's own, cut shorter. -/
theorem own_take {w : World} {base : Nat} {e : TypeId} {size : Nat} {A : Option Addr} {n c k : Nat} {xs : List Value} (h : w.ownsRow base e size (.slice A n c) n xs) (hk : k ≤ n) : w.ownsRow base e size (.slice A k c) k (xs.take (k * size)) := by
  refine ⟨by rw [List.length_take, h.1]; exact Nat.min_eq_left (Nat.mul_le_mul_right _ hk), ?_⟩
  rcases h.2 with ⟨hv, h0⟩ | ⟨g, cap, cur, hv, hg, hh, hc, hm, hs, rfl⟩
  · simp at hv
    obtain ⟨rfl, rfl, rfl⟩ := hv
    exact .inl ⟨by simp [show k = 0 by omega], by omega⟩
  · simp at hv
    obtain ⟨rfl, rfl⟩ := hv
    refine .inr ⟨g, c, cur, rfl, hg, hh, by omega, hm, hs, ?_⟩
    rw [List.take_take, Nat.min_eq_left (Nat.mul_le_mul_right _ hk)]
theorem OwnI.take {w : World} {B : Nat} {A : Option Addr} {c k n : Nat} {l : List Int} (h : OwnI w B (.slice A n c) l) (hn : l.length = n) (hk : k ≤ n) : OwnI w B (.slice A k c) (l.take k) := by
  subst hn
  have := own_take h hk
  unfold OwnI
  rw [List.length_take, Nat.min_eq_left hk]
  simpa [intCs, List.map_take] using this
theorem OwnE.take {w : World} {B : Nat} {A : Option Addr} {c k n : Nat} {l : List Ent} (h : OwnE w B (.slice A n c) l) (hn : l.length = n) (hk : k ≤ n) : OwnE w B (.slice A k c) (l.take k) := by
  subst hn
  have := own_take h hk
  unfold OwnE
  rw [List.length_take, Nat.min_eq_left hk]
  rwa [entCs_take l k hk] at this
end Go.Proofs.Ytdfcbfcnanpolaa
