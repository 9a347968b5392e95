/- Words for memory that these proofs share: how rows of entries lie in memory, kept over what a call makes. A region that draws its order, shown operation by operation: each operation is shown once, in whatever order it comes, out of what the ones that it reads have given. slices.Clone at the two element types: the result is a row of the call's own that reads as what came in. robq.Push, Pop, Cut, Put: what each answers, as rows of entries. robq.Pop, Cut, Put: what each answers, as rows of entries. robq.Cut, Put; the document's SameEnts and Pop. -/
import Derived.Test.YtchldbkjapnlcaaRows
import Derived.WalkKit
import Derived.WalkSpells
import Derived.WalkLawsBesides
import Derived.BigQuiet
import Derived.Deep.QuietTactic
import Derived.Deep.RegionHeld3
import Derived.Deep.RegionWith
import Derived.Deep.RegionLaw
import Derived.Deep.AppendLies
import Derived.Deep.DeepCutAuto
import Derived.Maps.AppendAt
import Derived.ProofKit
import Derived.Handy
set_option linter.unusedVariables false
set_option linter.unusedSimpArgs false
namespace Go.Proofs.Ytchldbkjapnlcaa
open Go.RowKit
section
structure Kept (p : Prop) : Prop where
 out : p
theorem block_of_add (a : Addr) (n : Nat) : (a.add n).block = a.block := by unfold Addr.add; split <;> rfl
def Reads (w : World) (B size : Nat) (A : Option Addr) (n : Nat) (xs : List Value) : Prop :=
 xs.length = n * size ∧ (0 < n → ∃ ad, A = some ad ∧ ad.spot = none ∧ ad.block < B ∧ ∀ j u, xs[j]? = some u → w.cell? ⟨ad.block, ad.off + j, none⟩ = some u)
section
variable {w w' : World} {B B' size n : Nat} {A : Option Addr} {xs : List Value}
theorem Reads.none_ : Reads w B size A 0 [] := ⟨by simp, fun h => absurd h (by omega)⟩
theorem Reads.keep (h : Reads w B size A n xs) (hk : ∀ p : Addr, p.block < B → w'.cell? p = w.cell? p) : Reads w' B size A n xs :=
 ⟨h.1, fun hn => by
  obtain ⟨ad, e, hs, hb, hc⟩ := h.2 hn
  exact ⟨ad, e, hs, hb, fun j u hu => (hk ⟨ad.block, ad.off + j, Option.none⟩ hb).trans (hc j u hu)⟩⟩
theorem Reads.more (h : Reads w B size A n xs) (hB : B ≤ B') : Reads w B' size A n xs :=
 ⟨h.1, fun hn => by
  obtain ⟨ad, e, hs, hb, hc⟩ := h.2 hn
  exact ⟨ad, e, hs, by omega, hc⟩⟩
theorem Reads.below (h : Reads w B size A n xs) (hb : Below B w w') : Reads w' B size A n xs := h.keep fun _ hp => hb.cell hp
theorem Reads.past (h : Reads w w.heap.size size A n xs) (hb : Below w.heap.size w w') : Reads w' w'.heap.size size A n xs := (h.below hb).more hb.size
theorem Reads.of_own {base : Nat} {e : TypeId} {c : Nat} (h : w.ownsRow base e size (.slice A n c) n xs) : Reads w w.heap.size size A n xs := by
 refine ⟨h.1, fun hn => ?_⟩
 obtain ⟨g, cap, hv, _, hlt⟩ := h.form hn
 have hA : A = some ⟨g, 0, none⟩ := by injection hv
 subst hA
 refine ⟨_, rfl, rfl, hlt, fun j u hu => ?_⟩
 have := h.cells (g := g) rfl j u hu
 rwa [Addr.add_lit] at this
theorem Reads.cells (h : Reads w B size A n xs) {i : Nat} (hi : i < n) : ∃ b o, A = some ⟨b, o, none⟩ ∧ b < B ∧ ∀ j u, j < size → xs[i * size + j]? = some u → w.cell? ⟨b, o + (i * size + j), none⟩ = some u := by
 obtain ⟨⟨b, o, s⟩, e, hs', hb, hc⟩ := h.2 (by omega)
 cases hs'
 exact ⟨b, o, e, hb, fun j u _ hu => hc _ u hu⟩
end
structure Ent where
 pc : Int
 val : Int
 addr : Int
 frm : Int
 next : Int
 done : Bool
 known : Bool
 fault : Bool
 deriving DecidableEq, Inhabited
def Ent.cs (e : Ent) : List Value := [.int .i64 e.pc, .int .i64 e.val, .int .i64 e.addr, .int .i64 e.frm, .int .i64 e.next, .bool e.done, .bool e.known, .bool e.fault]
def entCs (l : List Ent) : List Value := l.flatMap Ent.cs
def intCs (l : List Int) : List Value := l.map (Value.int .i64)
theorem Ent.cs_length (e : Ent) : e.cs.length = 8 := rfl
theorem entCs_length (l : List Ent) : (entCs l).length = l.length * 8 := by
 induction l with
 | nil => rfl
 | cons e l ih => simp only [entCs, List.flatMap_cons, List.length_append, Ent.cs_length, List.length_cons]; have : (List.flatMap Ent.cs l).length = l.length * 8 := ih; omega
theorem entCs_append (l m : List Ent) : entCs (l ++ m) = entCs l ++ entCs m := by simp [entCs]
theorem entCs_one (e : Ent) : entCs [e] = e.cs := by simp [entCs]
theorem entCs_get (l : List Ent) (i : Nat) (h : i < l.length) (j : Nat) (hj : j < 8) : (entCs l)[i * 8 + j]? = l[i].cs[j]? := by
 induction l generalizing i with
 | nil => simp at h
 | cons e l ih =>
  cases i with
  | zero =>
   rw [entCs, List.flatMap_cons, List.getElem?_append_left (by rw [Ent.cs_length]; omega)]
   simp
  | succ i =>
   rw [entCs, List.flatMap_cons, List.getElem?_append_right (by rw [Ent.cs_length]; omega), Ent.cs_length]
   have := ih i (by simpa using h)
   rw [show (i + 1) * 8 + j - 8 = i * 8 + j by omega]
   simpa [entCs] using this
theorem one_of_int (k : IntKind) (n : Int) : (Value.int k n).oneCell' = true := rfl
theorem q33 (l : List Ent) : ∀ u ∈ entCs l, u.oneCell' = true := by
 intro u hu
 obtain ⟨e, _, he⟩ := List.mem_flatMap.1 hu
 simp only [Ent.cs, List.mem_cons, List.not_mem_nil, or_false] at he
 rcases he with rfl | rfl | rfl | rfl | rfl | rfl | rfl | rfl <;> rfl
theorem q28 (l : List Int) : ∀ u ∈ intCs l, u.oneCell' = true := by
 intro u hu
 obtain ⟨_, _, rfl⟩ := List.mem_map.1 hu
 rfl
theorem intCs_length (l : List Int) : (intCs l).length = l.length := by simp [intCs]
theorem intCs_append (l m : List Int) : intCs (l ++ m) = intCs l ++ intCs m := by simp [intCs]
def RdE (w : World) (A : Option Addr) (l : List Ent) : Prop := Reads w w.heap.size 8 A l.length (entCs l)
def RdI (w : World) (A : Option Addr) (l : List Int) : Prop := Reads w w.heap.size 1 A l.length (intCs l)
theorem RdE.past {w w' : World} {A : Option Addr} {l : List Ent} (h : RdE w A l) (hb : Below w.heap.size w w') : RdE w' A l := Reads.past h hb
theorem RdI.past {w w' : World} {A : Option Addr} {l : List Int} (h : RdI w A l) (hb : Below w.heap.size w w') : RdI w' A l := Reads.past h hb
theorem RdE.at_ {w : World} {A : Option Addr} {l : List Ent} (h : RdE w A l) {i : Nat} (hi : i < l.length) :
  ∃ b o, A = some ⟨b, o, none⟩ ∧ b < w.heap.size ∧ w.cell? ⟨b, o + i * 8, none⟩ = some (.int .i64 l[i].pc) ∧ w.cell? ⟨b, o + i * 8 + 1, none⟩ = some (.int .i64 l[i].val) ∧ w.cell? ⟨b, o + i * 8 + 2, none⟩ = some (.int .i64 l[i].addr) ∧
   w.cell? ⟨b, o + i * 8 + 3, none⟩ = some (.int .i64 l[i].frm) ∧ w.cell? ⟨b, o + i * 8 + 4, none⟩ = some (.int .i64 l[i].next) ∧ w.cell? ⟨b, o + i * 8 + 5, none⟩ = some (.bool l[i].done) ∧ w.cell? ⟨b, o + i * 8 + 6, none⟩ = some (.bool l[i].known) ∧ w.cell? ⟨b, o + i * 8 + 7, none⟩ = some (.bool l[i].fault) := by
 obtain ⟨b, o, e, hb, hc⟩ := Reads.cells h hi
 have f : ∀ j u, j < 8 → l[i].cs[j]? = some u → w.cell? ⟨b, o + i * 8 + j, none⟩ = some u := fun j u hj hu => by
  rw [Nat.add_assoc]; exact hc j u hj (by rw [entCs_get l i hi j hj]; exact hu)
 exact ⟨b, o, e, hb, f 0 _ (by omega) rfl, f 1 _ (by omega) rfl, f 2 _ (by omega) rfl, f 3 _ (by omega) rfl, f 4 _ (by omega) rfl, f 5 _ (by omega) rfl, f 6 _ (by omega) rfl, f 7 _ (by omega) rfl⟩
theorem RdI.at_ {w : World} {A : Option Addr} {l : List Int} (h : RdI w A l) {i : Nat} (hi : i < l.length) : ∃ b o, A = some ⟨b, o, none⟩ ∧ b < w.heap.size ∧ w.cell? ⟨b, o + i, none⟩ = some (.int .i64 l[i]) := by
 obtain ⟨b, o, e, hb, hc⟩ := Reads.cells h hi
 refine ⟨b, o, e, hb, ?_⟩
 have := hc 0 (.int .i64 l[i]) (by omega) (by simp [intCs, hi])
 simpa using this
section
variable {P : Program} (w : World)
theorem run_append_of_nil (base : Nat) (t ty e : TypeId) (i : TypeInfo) (size : Nat) (ht : P.underlying t = some (.slice e)) (hi : P.info? e = some i)
  (v : Value) (n : Nat) (xs : List Value) (hown : w.ownsRow base e size v n xs) (c : Nat) : (Builtin.append_ #[t, t] ty #[v, .slice none 0 c]).run P w = .ok v w := by
 rcases hown.2 with ⟨rfl, rfl⟩ | ⟨g, cap, cur, rfl, _, _, hnc, _⟩
 ·simp [Builtin.append_, run_underlying ht, sizeOf, typeInfo, hi, Builtin.lenOf, Builtin.firstCells]
 ·simp [Builtin.append_, run_underlying ht, sizeOf, typeInfo, hi, Builtin.lenOf, Builtin.firstCells, hnc, storeCells]
theorem run_append_any (base : Nat) (t ty e : TypeId) (i : TypeInfo) (z : Value) (size bytes : Nat) (ht : P.underlying t = some (.slice e)) (hi : P.info? e = some i) (hz : i.zero = some z)
  (hsize : i.size = size) (hby : i.bytes = bytes) (hzs : z.cells.size = size) (hsz : 0 < size)
  (v : Value) (n : Nat) (xs : List Value) (hown : w.ownsRow base e size v n xs)
  (B : Nat) (A : Option Addr) (m c : Nat) (news : List Value) (hr : Reads w B size A m news) (h1 : ∀ u ∈ news, u.oneCell' = true)
  (h63 : n + m ≤ maxLen) (hbytes : (n + m) * bytes ≤ 140737488355328) (hbase : base ≤ w.heap.size) :
  ∃ v' w', (Builtin.append_ #[t, t] ty #[v, .slice A m c]).run P w = .ok v' w' ∧ w'.ownsRow base e size v' (n + m) (xs ++ news) ∧ w.grownBy w' v.ownBlock ∧
   (v'.ownBlock = v.ownBlock ∨ v'.ownBlock = some w.heap.size) := by
 have nil : m = 0 → news = [] := fun h0 => List.eq_nil_of_length_eq_zero (by rw [hr.1, h0]; simp)
 rcases A with _ | ad
 ·have hm : m = 0 := by
   rcases Nat.eq_zero_or_pos m with h0 | h0
   ·exact h0
   ·obtain ⟨ad, h, _⟩ := hr.2 h0
    cases h
  subst hm
  cases nil rfl
  exact ⟨v, w, run_append_of_nil w base t ty e i size ht hi v n xs hown c, by simpa using hown, World.grownBy.refl w _, .inl rfl⟩
 ·have hcells : ∀ j u, news[j]? = some u → w.cell? (ad.add j) = some u := by
   intro j u hu
   rcases Nat.eq_zero_or_pos m with h0 | h0
   ·cases nil h0
    simp at hu
   ·obtain ⟨ad', h, hs, _, hc⟩ := hr.2 h0
    injection h with h
    subst h
    obtain ⟨b, o, s⟩ := ad
    cases hs
    rw [Addr.add_lit]
    exact hc j u hu
  obtain ⟨v', w', hrun, h2, h3, _, h5⟩ := run_append_own_at (P := P) w base t ty e i z size bytes ht hi hz hsize hby hzs hsz v n xs hown ad m c news hr.1 hcells h1 h63 hbytes hbase
  exact ⟨v', w', hrun, h2, h3, h5⟩
theorem wp_append_any {o : Oper} {a : Act} {K : Act → World → Prop} {Q : Exit → Act → World → Prop} (s x : Operand) (t : TypeId)
  (ho : o.op = .call { callee := .builtin .append, args := #[s, x], argTypes := #[t, t] })
  (base : Nat) (e : TypeId) (i : TypeInfo) (z : Value) (size bytes : Nat) (ht : P.underlying t = some (.slice e)) (hi : P.info? e = some i) (hz : i.zero = some z)
  (hsize : i.size = size) (hby : i.bytes = bytes) (hzs : z.cells.size = size) (hsz : 0 < size)
  (v : Value) (n : Nat) (xs : List Value) (hs : a.eval s = v) (hown : w.ownsRow base e size v n xs)
  (B : Nat) (A : Option Addr) (m c : Nat) (news : List Value) (hx : a.eval x = .slice A m c) (hr : Reads w B size A m news) (h1 : ∀ u ∈ news, u.oneCell' = true)
  (h63 : n + m ≤ maxLen) (hbytes : (n + m) * bytes ≤ 140737488355328) (hbase : base ≤ w.heap.size)
  (h : ∀ v' w', w'.ownsRow base e size v' (n + m) (xs ++ news) → w.grownBy w' v.ownBlock → (v'.ownBlock = v.ownBlock ∨ v'.ownBlock = some w.heap.size) → K (a.put o.dst v') w') : o.wp P a w K Q := by
 obtain ⟨v', w', hrun, h2, h3, h4⟩ := run_append_any (P := P) w base t o.type e i z size bytes ht hi hz hsize hby hzs hsz v n xs hown B A m c news hr h1 h63 hbytes hbase
 unfold Oper.wp execOp
 simp only [ho, resolve, invoke, builtin, Sem.run_bind, Sem.run_pure, Result.andThen_ok, List.map_toArray, List.map_cons, List.map_nil, hs, hx, hrun]
 exact h v' w' h2 h3 h4
theorem q1F {ops : Array Oper} {rest : List Oper} {o : Oper} {a : Act} {Q : Exit → Act → World → Prop} (hgd : o.guard = none) (s x : Operand) (t : TypeId)
  (ho : o.op = .call { callee := .builtin .append, args := #[s, x], argTypes := #[t, t] })
  (base : Nat) (e : TypeId) (i : TypeInfo) (z : Value) (size bytes : Nat) (ht : P.underlying t = some (.slice e)) (hi : P.info? e = some i) (hz : i.zero = some z)
  (hsize : i.size = size) (hby : i.bytes = bytes) (hzs : z.cells.size = size) (hsz : 0 < size)
  (v : Value) (n : Nat) (xs : List Value) (hs : a.eval s = v) (hown : w.ownsRow base e size v n xs)
  (B : Nat) (A : Option Addr) (m c : Nat) (news : List Value) (hx : a.eval x = .slice A m c) (hr : Reads w B size A m news) (h1 : ∀ u ∈ news, u.oneCell' = true)
  (h63 : n + m ≤ maxLen) (hbytes : (n + m) * bytes ≤ 140737488355328) (hbase : base ≤ w.heap.size)
  (h : ∀ v' w', w'.ownsRow base e size v' (n + m) (xs ++ news) → w.grownBy w' v.ownBlock → (v'.ownBlock = v.ownBlock ∨ v'.ownBlock = some w.heap.size) → wpList P ops Q rest (a.put o.dst v') w') : wpList P ops Q (o :: rest) a w :=
 wpList_plain hgd fun _ hK => wp_append_any w s x t ho base e i z size bytes ht hi hz hsize hby hzs hsz v n xs hs hown B A m c news hx hr h1 h63 hbytes hbase fun v' w' h2 h3 h4 => hK _ _ (h v' w' h2 h3 h4)
end
section
variable {P : Program} {w : World}
theorem run_loadVar_cells (b off : Nat) (ty : TypeId) (cs : List Value) (d : TypeDesc) (hc : ∀ j u, cs[j]? = some u → w.cell? ⟨b, off + j, none⟩ = some u)
  (hu : P.underlying ty = some d) (hd : (match d with | .struct _ | .array _ _ => true | _ => false) = true) (hi : (P.info? ty).map (·.size) = some cs.length) :
  (loadVar ty ⟨b, off, none⟩).run P w = .ok (.agg cs.toArray) w := by
 have hl : (loadCells ⟨b, off, none⟩ cs.length).run P w = .ok cs.toArray w :=
  run_loadCells_list (P := P) w ⟨b, off, none⟩ cs (fun j v hv => by rw [Addr.add_lit]; exact hc j v hv)
 cases hq : P.info? ty with
 | none => simp [hq] at hi
 | some i =>
  have hs : i.size = cs.length := by simpa [hq] using hi
  have hagg : (isAgg ty).run P w = .ok true w := by
   unfold isAgg
   rw [Sem.run_bind, run_underlying hu w]
   cases d <;> simp_all
  simp [loadVar, Sem.run_bind, hagg, sizeOf, typeInfo, hq, hs, hl]
theorem q09 {o : Oper} {ev : Operand → Value} {ty : TypeId} {x : Operand} (ho : o.op = .load ty x) {b off : Nat} (hx : ev x = .pointer (some ⟨b, off, none⟩)) (cs : List Value) {d : TypeDesc}
  (hc : ∀ j u, cs[j]? = some u → w.cell? ⟨b, off + j, none⟩ = some u) (hu : P.underlying ty = some d) (hd : (match d with | .struct _ | .array _ _ => true | _ => false) = true) (hi : (P.info? ty).map (·.size) = some cs.length) :
  (execOp ev o).run P w = .ok (.value (.agg cs.toArray)) w := by
 unfold execOp
 simp only [ho, hx, Instr.loadAt, Instr.sureAddr, Sem.run_bind, Sem.run_pure, Result.andThen_ok, run_loadVar_cells b off ty cs d hc hu hd hi]
theorem q05 {g : Nat} {cs : List Value} {t : TypeId} {fr : Nat × Nat} (hg : w.heap[g]? = some (.cells cs.toArray t fr)) : ∀ j u, cs[j]? = some u → w.cell? ⟨g, 0 + j, none⟩ = some u := fun j u hu => by
 rw [Nat.zero_add, cell_of_row w g j cs.toArray t fr hg]; simpa using hu
end
section
variable {P : Program} {w : World}
theorem map_add_zero (A : Option Addr) : A.map (·.add 0) = A := by
 cases A with
 | none => rfl
 | some a => simp [Addr.add]
theorem run_cut_to (t e : TypeId) (i : TypeInfo) (ht : P.underlying t = some (.slice e)) (hi : P.info? e = some i) (A : Option Addr) (n c : Nat) (k : Int) (h0 : 0 ≤ k) (hk : k ≤ n) (hc : n ≤ c) (w : World) :
  (Instr.slice t (.slice A n c) none (some (.int .i64 k)) none).run P w = .ok (.slice A k.toNat c) w := by
 have he : P.elem t = e := by simp [Program.elem, ht]
 rw [run_slice_h (P := P) w t A n c (by rw [he]; exact ht) .i64 k h0 (by omega)]
 simp only [he, sizeOf, typeInfo, Sem.run_bind, Sem.run_pure, Result.andThen_ok, run_program, hi, sliced, Nat.zero_mul, map_add_zero, ite_self, Nat.sub_zero]
theorem run_cut_from (t e : TypeId) (i : TypeInfo) (size : Nat) (hs : i.size = size) (ht : P.underlying t = some (.slice e)) (hi : P.info? e = some i) (A : Option Addr) (n c : Nat) (k : Int) (h0 : 0 ≤ k) (hk : k ≤ n) (w : World) :
  (Instr.slice t (.slice A n c) (some (.int .i64 k)) none none).run P w = .ok (.slice (if c = k.toNat then A else A.map (·.add (k.toNat * size))) (n - k.toNat) (c - k.toNat)) w := by
 have he : P.elem t = e := by simp [Program.elem, ht]
 subst hs
 rw [run_slice_l (P := P) w t A n c (by rw [he]; exact ht) .i64 k h0 hk]
 simp only [he, sizeOf, typeInfo, Sem.run_bind, Sem.run_pure, Result.andThen_ok, run_program, hi, sliced]
theorem Reads.take {B size n : Nat} {A : Option Addr} {xs : List Value} (h : Reads w B size A n xs) {k : Nat} (hk : k ≤ n) : Reads w B size A k (xs.take (k * size)) := by
 refine ⟨by rw [List.length_take, h.1]; exact Nat.min_eq_left (Nat.mul_le_mul_right _ hk), fun hn => ?_⟩
 obtain ⟨ad, e, hs, hb, hc⟩ := h.2 (by omega)
 refine ⟨ad, e, hs, hb, fun j u hu => hc j u ?_⟩
 rw [List.getElem?_take] at hu
 split at hu
 ·exact hu
 ·cases hu
theorem Reads.cut {B size n : Nat} {A : Option Addr} {xs : List Value} (h : Reads w B size A n xs) {k cap : Nat} (hk : k ≤ n) (hc : n ≤ cap) :
  Reads w B size (if cap = k then A else A.map (·.add (k * size))) (n - k) (xs.drop (k * size)) := by
 refine ⟨by rw [List.length_drop, h.1, Nat.sub_mul], fun hn => ?_⟩
 obtain ⟨⟨b, o, s⟩, rfl, hs, hb, hcell⟩ := h.2 (by omega)
 cases hs
 rw [if_neg (by omega)]
 refine ⟨⟨b, o + k * size, Option.none⟩, by rw [Option.map_some, Addr.add_lit], rfl, hb, fun j u hu => ?_⟩
 have := hcell (k * size + j) u (by rw [← hu, List.getElem?_drop])
 simpa [Nat.add_assoc] using this
end
theorem entCs_take (l : List Ent) (k : Nat) (h : k ≤ l.length) : (entCs l).take (k * 8) = entCs (l.take k) := by
 have e := entCs_append (l.take k) (l.drop k)
 rw [List.take_append_drop] at e
 rw [e, List.take_left' (by rw [entCs_length, List.length_take]; omega)]
theorem entCs_drop (l : List Ent) (k : Nat) (h : k ≤ l.length) : (entCs l).drop (k * 8) = entCs (l.drop k) := by
 have e := entCs_append (l.take k) (l.drop k)
 rw [List.take_append_drop] at e
 rw [e, List.drop_left' (by rw [entCs_length, List.length_take]; omega)]
theorem RdE.from_ {w : World} {A : Option Addr} {l : List Ent} (h : RdE w A l) {k c : Nat} (hk : k ≤ l.length) (hc : l.length ≤ c) : RdE w (if c = k then A else A.map (·.add (k * 8))) (l.drop k) := by
 have := Reads.cut h hk hc
 rw [entCs_drop l k hk] at this
 unfold RdE
 rw [List.length_drop]
 exact this
theorem RdI.to {w : World} {A : Option Addr} {l : List Int} (h : RdI w A l) {k : Nat} (hk : k ≤ l.length) : RdI w A (l.take k) := by
 have := Reads.take h hk
 unfold RdI
 rw [List.length_take, Nat.min_eq_left hk]
 simpa [intCs, List.map_take] using this
theorem RdI.from_ {w : World} {A : Option Addr} {l : List Int} (h : RdI w A l) {k c : Nat} (hk : k ≤ l.length) (hc : l.length ≤ c) : RdI w (if c = k then A else A.map (·.add (k * 1))) (l.drop k) := by
 have := Reads.cut h hk hc
 unfold RdI
 rw [List.length_drop]
 simpa [intCs, List.map_drop] using this
section
variable {P : Program} {w : World}
inductive ResAt (P : Program) (w : World) (tmps : Array Value) : ResultVar → Value → Prop
 | tmp {t : Tmp} {v : Value} (h : tmps.getD t undef = v) : ResAt P w tmps (.tmp t) v
 | cell {p : Tmp} {ty : TypeId} {b off : Nat} {cs : List Value} {d : TypeDesc} {v : Value} (hv : v = .agg cs.toArray) (hp : tmps.getD p undef = .pointer (some ⟨b, off, none⟩)) (hc : ∀ j u, cs[j]? = some u → w.cell? ⟨b, off + j, none⟩ = some u)
   (hu : P.underlying ty = some d) (hd : (match d with | .struct _ | .array _ _ => true | _ => false) = true) (hi : (P.info? ty).map (·.size) = some cs.length) : ResAt P w tmps (.cell p ty) v
inductive ResAll (P : Program) (w : World) (tmps : Array Value) : List ResultVar → List Value → Prop
 | nil : ResAll P w tmps [] []
 | cons {r : ResultVar} {v : Value} {rs : List ResultVar} {vs : List Value} (h : ResAt P w tmps r v) (hs : ResAll P w tmps rs vs) : ResAll P w tmps (r :: rs) (v :: vs)
def resultOf (tmps : Array Value) : ResultVar → Sem Value
 | .tmp t => pure (tmps.getD t undef)
 | .cell a t => do loadVar t (← asAddr (tmps.getD a undef))
theorem results_is (fn : Func) (tmps : Array Value) : results fn tmps = (do let vs ← fn.results.mapM (resultOf tmps); pure (if h : vs.size = 1 then vs[0] else .tuple vs)) := by
 unfold results
 congr 1
theorem results_all {fn : Func} {tmps : Array Value} {rs : List ResultVar} {vs : List Value} (h : fn.results = rs.toArray) (hv : ResAll P w tmps rs vs) :
  (results fn tmps).run P w = .ok (if h : vs.toArray.size = 1 then vs.toArray[0] else .tuple vs.toArray) w := by
 have one : ∀ r v, ResAt P w tmps r v → (resultOf tmps r).run P w = .ok v w := by
  intro r v hr
  cases hr with
  | tmp h => simp only [resultOf, Sem.run_pure, h]
  | cell hv hp hc hu hd hi =>
   subst hv
   simp only [resultOf, hp, asAddr, Sem.run_bind, Sem.run_pure, Result.andThen_ok]
   exact run_loadVar_cells _ _ _ _ _ hc hu hd hi
 have all : ∀ rs vs, ResAll P w tmps rs vs → (rs.mapM (resultOf tmps)).run P w = .ok vs w := by
  intro rs vs hrs
  induction hrs with
  | nil => simp
  | cons h _ ih => rw [List.mapM_cons, Sem.run_bind, one _ _ h, Result.andThen_ok, Sem.run_bind, ih, Result.andThen_ok, Sem.run_pure]
 rw [results_is, h, List.mapM_toArray]
 simp only [Sem.run_bind, Sem.run_map, Result.andThen_ok, Sem.run_pure, all rs vs hv]
end
def pack : List Value → Value
 | [v] => v
 | vs => .tuple vs.toArray
theorem pack_eq (vs : List Value) : (if h : vs.toArray.size = 1 then vs.toArray[0] else .tuple vs.toArray) = pack vs := by
 match vs with
 | [] => rfl
 | [v] => rfl
 | _ :: _ :: _ => rfl
theorem q0C {P : Program} {fn : Func} {R : Ending → World → Prop} {a : Act} {w : World} (rs : List ResultVar) (vs : List Value) (h : fn.results = rs.toArray) (hv : ResAll P w a.tmps rs vs) (hd : a.defers = []) (hR : R (.returned (pack vs)) w) : bodyPost P fn R .ret a w :=
 bodyPost_ret (by rw [results_all h hv, pack_eq]) hd hR
end
section
def fillAll (vals : Nat → Value) : List Oper → Nat → Act → Act
 | [], _, a => a
 | o :: l, k, a => fillAll vals l (k + 1) (a.put o.dst (vals k))
def binds (e : Edge) : Bool := Region.binds .any e
def awaits (o : Oper) (j : Nat) : Bool := o.after.any fun e => binds e && e.on == j
def rgOps (n : Nat) (l : List Oper) : Bool :=
 Region.noSelect l.toArray &&
 l.zipIdx.all fun (o, i) =>
  o.after.all (fun e => !binds e || e.on < i) &&
  (match o.dst with | none => true | some d => d < n && (l.zipIdx.all fun (o', j) => j == i || o'.dst != some d)) &&
  (l.zipIdx.all fun (o', j) => match o'.dst with | none => true | some d => !(o.looksAt l.toArray).contains d || awaits o j)
def rgKept (l : List Oper) (mem wd fin : Nat → Bool) (cs : List (Nat × Nat)) : Bool :=
 l.zipIdx.all fun (oi, i) => !mem i || l.zipIdx.all fun (oj, j) => j == i || !wd j || cs.contains (i, j) || awaits oj i ||
  (!fin j && l.zipIdx.all fun (ok, k) => k == i || (match oj.dst with | none => true | some d => !(ok.looksAt l.toArray).contains d) || awaits oi k)
section
variable {P : Program} {l : List Oper} {Q : Exit → Act → World → Prop}
theorem fill_defers (vals : Nat → Value) : ∀ (l : List Oper) (k : Nat) (a : Act), (fillAll vals l k a).defers = a.defers
 | [], _, _ => rfl
 | o :: l, k, a => by
  rw [fillAll, fill_defers vals l]
  cases o.dst <;> rfl
theorem fill_size (vals : Nat → Value) : ∀ (l : List Oper) (k : Nat) (a : Act), (fillAll vals l k a).tmps.size = a.tmps.size
 | [], _, _ => rfl
 | o :: l, k, a => by
  rw [fillAll, fill_size vals l]
  cases o.dst <;> simp [Act.put]
theorem put_get_ne {a : Act} {dst : Option Tmp} {v : Value} {t : Tmp} (h : dst ≠ some t) : (a.put dst v).tmps[t]? = a.tmps[t]? := by
 cases dst with
 | none => rfl
 | some d =>
  have : d ≠ t := fun e => h (by rw [e])
  simp [Act.put, Array.getElem?_setIfInBounds_ne this]
theorem put_get_eq {a : Act} {v : Value} {t : Tmp} (h : t < a.tmps.size) : (a.put (some t) v).tmps[t]? = some v := by
 simp [Act.put, h]
theorem q2B (vals : Nat → Value) (t : Tmp) : ∀ (l : List Oper) (k : Nat) (a : Act), (∀ o ∈ l, o.dst ≠ some t) → (fillAll vals l k a).tmps[t]? = a.tmps[t]?
 | [], _, _, _ => rfl
 | o :: l, k, a, h => by
  rw [fillAll, q2B vals t l _ _ (fun o ho => h o (List.mem_cons_of_mem _ ho)), put_get_ne (h o List.mem_cons_self)]
theorem fill_at (vals : Nat → Value) (t : Tmp) : ∀ (l : List Oper) (k : Nat) (a : Act) (j : Nat) (o : Oper), l[j]? = some o → o.dst = some t → t < a.tmps.size →
  (∀ j' o', l[j']? = some o' → o'.dst = some t → j' = j) → (fillAll vals l k a).tmps[t]? = some (vals (k + j))
 | [], _, _, j, o, h, _, _, _ => by simp at h
 | o0 :: l, k, a, j, o, h, hd, ht, hu => by
  rw [fillAll]
  have hs : (a.put o0.dst (vals k)).tmps.size = a.tmps.size := by cases o0.dst <;> simp [Act.put]
  cases j with
  | zero =>
   simp at h
   subst h
   rw [q2B vals t l _ _ (fun o' ho' hd' => by
    obtain ⟨j', hj'⟩ := List.getElem?_of_mem ho'
    have := hu (j' + 1) o' (by simpa using hj') hd'
    omega), hd, put_get_eq ht]
   rfl
  | succ j =>
   have := fill_at vals t l (k + 1) (a.put o0.dst (vals k)) j o (by simpa using h) hd (by rw [hs]; exact ht) (fun j' o' h' hd' => by
    have := hu (j' + 1) o' (by simpa using h') hd'
    omega)
   rw [this, show k + 1 + j = k + (j + 1) by omega]
structure Filled (l : List Oper) (a0 : Act) (done : Nat → Bool) (vals : Nat → Value) (a : Act) : Prop where
 defers : a.defers = a0.defers
 size : a.tmps.size = a0.tmps.size
 at_ : ∀ (j : Nat) (o : Oper) (d : Tmp), l[j]? = some o → done j = true → o.dst = some d → a.tmps[d]? = some (vals j)
 other : ∀ t, (∀ (j : Nat) (o : Oper), l[j]? = some o → done j = true → o.dst ≠ some t) → a.tmps[t]? = a0.tmps[t]?
theorem all_at {f : Oper × Nat → Bool} (h : l.zipIdx.all f = true) {j : Nat} {o : Oper} (ho : l[j]? = some o) : f (o, j) = true :=
 List.all_eq_true.1 h (o, j) (List.mem_zipIdx_iff_getElem?.2 (by simpa using ho))
structure Sane (n : Nat) (l : List Oper) : Prop where
 sel : Region.noSelect l.toArray = true
 back : ∀ (i : Nat) (o : Oper), l[i]? = some o → ∀ e ∈ o.after, binds e = true → e.on < i
 inb : ∀ (i : Nat) (o : Oper) (d : Tmp), l[i]? = some o → o.dst = some d → d < n
 uniq : ∀ (i : Nat) (o : Oper) (j : Nat) (o' : Oper) (d : Tmp), l[i]? = some o → l[j]? = some o' → o.dst = some d → o'.dst = some d → j = i
 reads : ∀ (i : Nat) (o : Oper) (j : Nat) (o' : Oper) (d : Tmp), l[i]? = some o → l[j]? = some o' → o'.dst = some d → d ∈ o.looksAt l.toArray → awaits o j = true
theorem sane_of {n : Nat} (h : rgOps n l = true) : Sane n l := by
 simp only [rgOps, Bool.and_eq_true] at h
 obtain ⟨hs, hall⟩ := h
 have g : ∀ i o, l[i]? = some o → _ := fun i o ho => all_at hall ho
 simp only [Bool.and_eq_true] at g
 refine ⟨hs, fun i o ho e he hb => ?_, fun i o d ho hd => ?_, fun i o j o' d ho ho' hd hd' => ?_, fun i o j o' d ho ho' hd' hr => ?_⟩
 ·have := Array.all_eq_true'.1 (g i o ho).1.1 e he
  simpa [hb] using this
 ·have := (g i o ho).1.2
  simp only [hd, Bool.and_eq_true, decide_eq_true_eq] at this
  exact this.1
 ·have := (g i o ho).1.2
  simp only [hd, Bool.and_eq_true, decide_eq_true_eq] at this
  have := all_at this.2 ho'
  simpa [hd'] using this
 ·have := all_at (g i o ho).2 ho'
  simp only [hd'] at this
  simpa [hr] using this
theorem filled_eval {n : Nat} {a0 a : Act} {done : Nat → Bool} {vals : Nat → Value} (hs : Sane n l) (hn : a0.tmps.size = n) (h : Filled l a0 done vals a) {i : Nat} {o : Oper} (ho : l[i]? = some o)
  (hd : ∀ j, awaits o j = true → done j = true) (t : Tmp) (ht : t ∈ o.looksAt l.toArray) : a.tmps[t]? = (fillAll vals l 0 a0).tmps[t]? := by
 by_cases hx : ∃ (j : Nat) (o' : Oper), l[j]? = some o' ∧ o'.dst = some t
 ·obtain ⟨j, o', ho', hd'⟩ := hx
  rw [h.at_ j o' t ho' (hd j (hs.reads i o j o' t ho ho' hd' ht)) hd', fill_at vals t l 0 a0 j o' ho' hd' (by rw [hn]; exact hs.inb j o' t ho' hd') (fun j' o'' h' hd'' => hs.uniq j o' j' o'' t ho' h' hd' hd'')]
  simp
 ·have hno : ∀ (j : Nat) (o : Oper), l[j]? = some o → o.dst ≠ some t := fun j o ho hd => hx ⟨j, o, ho, hd⟩
  rw [h.other t (fun j o ho _ => hno j o ho), q2B vals t l 0 a0 (fun o ho => by
   obtain ⟨j, hj⟩ := List.getElem?_of_mem ho
   exact hno j o hj)]
theorem filled_put {n : Nat} {a0 a : Act} {done : Nat → Bool} {vals : Nat → Value} (hs : Sane n l) (hn : a0.tmps.size = n) (h : Filled l a0 done vals a) {i : Nat} {o : Oper} (ho : l[i]? = some o) (hni : done i = false) (v : Value) :
  Filled l a0 (fun j => done j || j == i) (fun j => if j = i then v else vals j) (a.put o.dst v) := by
 refine ⟨?_, ?_, fun j o' d ho' hj hd' => ?_, fun t ht => ?_⟩
 ·rw [← h.defers]
  cases o.dst <;> rfl
 ·rw [← h.size]
  cases o.dst <;> simp [Act.put]
 ·by_cases hji : j = i
  ·subst hji
   obtain rfl : o = o' := by rw [ho] at ho'; injection ho'
   rw [if_pos rfl, hd', put_get_eq (by rw [h.size, hn]; exact hs.inb j o d ho hd')]
  ·rw [if_neg hji, put_get_ne (fun e => hji (hs.uniq i o j o' d ho ho' e hd')), h.at_ j o' d ho' (by simpa [hji] using hj) hd']
 ·rw [put_get_ne (ht i o ho (by simp)), h.other t (fun j o' ho' hj => ht j o' ho' (by simp [hj]))]
theorem filled_all {n : Nat} {a0 a : Act} {done : Nat → Bool} {vals : Nat → Value} (hs : Sane n l) (hn : a0.tmps.size = n) (h : Filled l a0 done vals a) (hall : ∀ j, j < l.length → done j = true) : a = fillAll vals l 0 a0 := by
 have ht : a.tmps = (fillAll vals l 0 a0).tmps := by
  apply Array.ext_getElem?
  intro t
  by_cases hx : ∃ (j : Nat) (o' : Oper), l[j]? = some o' ∧ o'.dst = some t
  ·obtain ⟨j, o', ho', hd'⟩ := hx
   rw [h.at_ j o' t ho' (hall j (List.getElem?_eq_some_iff.1 ho').1) hd', fill_at vals t l 0 a0 j o' ho' hd' (by rw [hn]; exact hs.inb j o' t ho' hd') (fun j' o'' h' hd'' => hs.uniq j o' j' o'' t ho' h' hd' hd'')]
   simp
  ·have hno : ∀ (j : Nat) (o : Oper), l[j]? = some o → o.dst ≠ some t := fun j o ho hd => hx ⟨j, o, ho, hd⟩
   rw [h.other t (fun j o ho _ => hno j o ho), q2B vals t l 0 a0 (fun o ho => by
    obtain ⟨j, hj⟩ := List.getElem?_of_mem ho
    exact hno j o hj)]
 obtain ⟨tm, df⟩ := a
 have hdf := h.defers
 have hdf' := fill_defers vals l 0 a0
 cases hf : fillAll vals l 0 a0 with
 | mk tm' df' =>
  rw [hf] at ht hdf'
  simp only at ht hdf hdf'
  subst ht
  rw [hdf, hdf']
structure OneOp (P : Program) (l : List Oper) (a1 : Act) (o : Oper) (w : World) (post : Value → World → Prop) : Prop where
 out : ∀ K : Act → World → Prop, (∀ v w', post v w' → K (a1.put o.dst v) w') → if Region.wanted o (yielded l.toArray a1.tmps) = true then o.wp P a1 w K (fun _ _ _ => False) else K (a1.put o.dst undef) w
theorem eval_of_get {a a1 : Act} {o : Oper} (h : ∀ t ∈ o.looksAt l.toArray, a.tmps[t]? = a1.tmps[t]?) : ∀ x ∈ o.op.operands, a.eval x = a1.eval x := by
 intro x hx
 cases x with
 | tmp t =>
  have := h t (List.mem_append_left _ (List.mem_filterMap.2 ⟨.tmp t, by simpa using hx, rfl⟩))
  simp only [Act.eval, Array.getD_eq_getD_getElem?, this]
 | _ => rfl
theorem wanted_of_get {a a1 : Act} {o : Oper} (h : ∀ t ∈ o.looksAt l.toArray, a.tmps[t]? = a1.tmps[t]?) : Region.wanted o (yielded l.toArray a.tmps) = Region.wanted o (yielded l.toArray a1.tmps) := by
 unfold Region.wanted
 cases hg : o.guard with
 | none => rfl
 | some gw =>
  obtain ⟨g, want⟩ := gw
  simp only []
  have : yielded l.toArray a.tmps g = yielded l.toArray a1.tmps g := by
   unfold yielded
   cases hd : ((l.toArray)[g]?).bind (·.dst) with
   | none => rfl
   | some t =>
    have := h t (List.mem_append_right _ (by rw [hg]; simp only []; rw [hd]; simp))
    simp only [Option.bind_some, this]
  rw [this]
theorem one_gives {a a1 : Act} {o : Oper} {w : World} {post : Value → World → Prop} (hsel : ∀ cs b, o.op ≠ .select cs b) (hd : ∀ d, o.dst = some d → d < a1.tmps.size) 
  (h : ∀ t ∈ o.looksAt l.toArray, a.tmps[t]? = a1.tmps[t]?) (hone : OneOp P l a1 o w post) {K : Act → World → Prop} (hK : ∀ v w', post v w' → K (a.put o.dst v) w') :
  if Region.wanted o (yielded l.toArray a.tmps) = true then o.wp P a w K Q else K (a.put o.dst undef) w := by
 have H := hone.out (fun a' w' => ∃ v, a' = a1.put o.dst v ∧ post v w') (fun v w' hp => ⟨v, rfl, hp⟩)
 have back : ∀ u v, a1.put o.dst u = a1.put o.dst v → a.put o.dst u = a.put o.dst v := by
  intro u v he
  cases hdst : o.dst with
  | none => rfl
  | some d =>
   rw [hdst] at he
   have h1 := put_get_eq (a := a1) (v := u) (hd d hdst)
   rw [he, put_get_eq (hd d hdst)] at h1
   injection h1 with h1
   rw [h1]
 rw [wanted_of_get h]
 split
 ·rename_i hw
  rw [if_pos hw] at H
  unfold Oper.wp at H ⊢
  rw [execOp_congr o hsel (eval_of_get h)]
  generalize (execOp a1.eval o).run P w = r at H ⊢
  cases r with
  | ok n w' =>
   cases n <;> simp only [Oper.upon] at H ⊢
   case value u => obtain ⟨v, he, hp⟩ := H; rw [back u v he]; exact hK v w' hp
   case skip => obtain ⟨v, he, hp⟩ := H; rw [back _ v he]; exact hK v w' hp
   case defer d =>
    obtain ⟨v, he, _⟩ := H
    have := congrArg Act.defers he
    have e1 : ∀ (b : Act) (u : Value), (b.put o.dst u).defers = b.defers := fun b u => by cases o.dst <;> rfl
    rw [e1, e1] at this
    exact absurd this (by simp)
   case enter f args =>
    refine Calls.mono H fun e w'' he => ?_
    cases e with
    | returned u => obtain ⟨v, he, hp⟩ := he; simp only []; rw [back u v he]; exact hK v w'' hp
    | panicked c => exact False.elim he
    | outgrown => obtain ⟨_, _, hf⟩ := he; exact False.elim hf
   case row row args => exact Rows.mono H fun u w'' he => by obtain ⟨v, he, hp⟩ := he; rw [back u v he]; exact hK v w'' hp
  | halt x w' =>
   cases x <;> simp only [Oper.upon] at H ⊢
 ·rename_i hw
  rw [if_neg hw] at H
  obtain ⟨v, he, hp⟩ := H
  rw [back _ v he]
  exact hK v w hp
theorem region_rg {id n : Nat} {a0 : Act} {w0 : World} (G : World → Prop) (R : Nat → Value → World → Prop) (E : Nat → World → World → Prop) (mem wd fin : Nat → Bool) (cs : List (Nat × Nat))
  (hm : P.follows .mixedOrders = true) (hn : a0.tmps.size = n) (h1 : rgOps n l = true) (h2 : rgKept l mem wd fin cs = true)
  (hnm : ∀ i w w', mem i = false → E i w w' → w' = w) (hnw : ∀ j v w w', wd j = false → R j v w → R j v w')
  (hst : ∀ p ∈ cs, ∀ v w w', G w → R p.2 v w → E p.1 w w' → R p.2 v w') (h0 : G w0.drew)
  (hop : ∀ i o, l[i]? = some o → ∀ vals w, G w → (∀ j, awaits o j = true → (∃ oj d, l[j]? = some oj ∧ oj.dst = some d ∧ d ∈ o.looksAt l.toArray) → R j (vals j) w) → OneOp P l (fillAll vals l 0 a0) o w (fun v w' => R i v w' ∧ G w' ∧ E i w w'))
  (hend : ∀ vals w, G w → (∀ j, j < l.length → fin j = true → R j (vals j) w) → Q .normal (fillAll vals l 0 a0) w) : (Code.region id l.toArray true).wp P Q a0 w0 := by
 have hs := sane_of h1
 refine wp_region_any hm ?_
 change wpAny P .any l.toArray Q l.toArray.size (Array.replicate l.toArray.size false) a0 w0.drew
 -- the invariant
 have main : ∀ (fuel : Nat) (listed : Array Bool) (a : Act) (w : World) (vals : Nat → Value), listed.size = l.length → listed.toList.count false = fuel → (∀ (j : Nat) (oj : Oper), l[j]? = some oj → listed.getD j false = true → ∀ i, awaits oj i = true → listed.getD i false = true) → G w → Filled l a0 (fun j => listed.getD j false) vals a →
   (∀ j oj, l[j]? = some oj → listed.getD j false = true → (fin j = true ∨ ∃ k ok d, l[k]? = some ok ∧ oj.dst = some d ∧ d ∈ ok.looksAt l.toArray ∧ listed.getD k false = false) → R j (vals j) w) →
   wpAny P .any l.toArray Q fuel listed a w := by
  intro fuel
  have done : ∀ (listed : Array Bool) (a : Act) (w : World) (vals : Nat → Value), listed.size = l.length → G w → Filled l a0 (fun j => listed.getD j false) vals a →
    (∀ j oj, l[j]? = some oj → listed.getD j false = true → (fin j = true ∨ ∃ k ok d, l[k]? = some ok ∧ oj.dst = some d ∧ d ∈ ok.looksAt l.toArray ∧ listed.getD k false = false) → R j (vals j) w) →
    (∀ j, j < l.length → listed.getD j false = true) → Q .normal a w := by
   intro listed a w vals hsz hG hF hR hall
   rw [filled_all hs hn hF hall]
   exact hend vals w hG fun j hj hf => hR j l[j] (List.getElem?_eq_getElem hj) (hall j hj) (.inl hf)
  -- nothing may come up: all has
  have none_ready : ∀ (listed : Array Bool), listed.size = l.length → Region.ready .any l.toArray listed = [] → ∀ j, j < l.length → listed.getD j false = true := by
   intro listed hsz hr j
   induction j using Nat.strongRecOn with
   | ind j ih =>
    intro hj
    cases hb : listed.getD j false with
    | true => rfl
    | false =>
     exfalso
     have hmem : j ∈ Region.ready .any l.toArray listed := mem_ready.2 ⟨by
      have : listed[j]? = some (listed[j]'(by omega)) := Array.getElem?_eq_getElem (by omega)
      simp only [Array.getD_eq_getD_getElem?, this, Option.getD_some] at hb ⊢
      exact hb, l[j], by simp [hj], fun e he hbi => ih e.on (hs.back j l[j] (List.getElem?_eq_getElem hj) e he hbi) (by have := hs.back j l[j] (List.getElem?_eq_getElem hj) e he hbi; omega)⟩
     rw [hr] at hmem
     cases hmem
  induction fuel with
  | zero =>
   intro listed a w vals hsz hc hcl hG hF hR
   have hall : ∀ j, j < l.length → listed.getD j false = true := fun j hj => by
    have : listed[j]? = some (listed[j]'(by omega)) := Array.getElem?_eq_getElem (by omega)
    simp only [Array.getD_eq_getD_getElem?, this, Option.getD_some]
    cases hb : listed[j]'(by omega) with
    | true => rfl
    | false =>
     exfalso
     have hm : false ∈ listed.toList := by
      rw [← hb]
      exact Array.mem_toList_iff.2 (Array.getElem_mem _)
     exact absurd hc (by have := List.count_pos_iff.2 hm; omega)
   refine ⟨?_, done listed a w vals hsz hG hF hR hall⟩
   apply List.eq_nil_iff_forall_not_mem.2
   intro j hj
   obtain ⟨h0, o, ho, _⟩ := mem_ready.1 hj
   have hjl : j < l.length := by
    rcases Nat.lt_or_ge j l.length with h | h
    ·exact h
    ·simp [h] at ho
   have := hall j hjl
   have hx : listed[j]? = some (listed[j]'(by omega)) := Array.getElem?_eq_getElem (by omega)
   simp only [Array.getD_eq_getD_getElem?, hx, Option.getD_some] at this h0
   rw [this] at h0
   cases h0
  | succ fuel ih =>
   intro listed a w vals hsz hc hcl hG hF hR
   refine ⟨fun hr => done listed a w vals hsz hG hF hR (none_ready listed hsz hr), fun i hi => ?_⟩
   obtain ⟨hun, o, hoa, hall⟩ := mem_ready.1 hi
   have ho : l[i]? = some o := by simpa using hoa
   have hil : i < l.length := (List.getElem?_eq_some_iff.1 ho).1
   have hgi : listed[i]? = some (listed[i]'(by omega)) := Array.getElem?_eq_getElem (by omega)
   have hfi : listed[i]'(by omega) = false := by simpa only [Array.getD_eq_getD_getElem?, hgi, Option.getD_some] using hun
   have hni : listed.getD i false = false := by simp only [Array.getD_eq_getD_getElem?, hgi, Option.getD_some, hfi]
   have hdone : ∀ j, awaits o j = true → listed.getD j false = true := fun j hj => by
    obtain ⟨e, he, hb⟩ := Array.any_eq_true'.1 hj
    simp only [Bool.and_eq_true, beq_iff_eq] at hb
    rw [← hb.2]
    exact hall e he hb.1
   have hset : ∀ j, (listed.setIfInBounds i true).getD j false = (listed.getD j false || j == i) := fun j => by
    by_cases hji : j = i
    ·subst hji
     simp [Array.getD_eq_getD_getElem?, hsz, hil]
    ·simp [Array.getD_eq_getD_getElem?, Array.getElem?_setIfInBounds_ne (Ne.symm hji), hji]
   refine wpOp_step hoa fun K hK => ?_
   refine one_gives (a1 := fillAll vals l 0 a0) (post := fun v w' => R i v w' ∧ G w' ∧ E i w w') (fun cs b => Region.noSelect_spec hs.sel i o cs b hoa) (fun d hd => by rw [fill_size, hn]; exact hs.inb i o d ho hd) 
    (fun t ht => filled_eval hs hn hF ho hdone t ht) ?_ ?_
   ·refine hop i o ho vals w hG fun j hj hx => ?_
    obtain ⟨oj, d, hoj, hdj, hlk⟩ := hx
    exact hR j oj hoj (hdone j hj) (.inr ⟨i, o, d, ho, hdj, hlk, hni⟩)
   ·rintro v w' ⟨hv, hG', hE⟩
    refine hK _ _ (ih (listed.setIfInBounds i true) (a.put o.dst v) w' (fun j => if j = i then v else vals j) (by simpa using hsz) ?_ ?_ hG' ?_ ?_)
    ·have hl : listed.toList[i]'(by simpa using by omega) = false := by simpa using hfi
     have hcs := List.count_set (b := false) (a := true) (l := listed.toList) (i := i) (by simpa using by omega)
     rw [Array.toList_setIfInBounds]
     rw [hcs, hl, hc]
     simp
    ·intro j oj hoj hj k hk
     rw [hset] at hj ⊢
     rcases Bool.or_eq_true _ _ ▸ hj with h | h
     ·rw [hcl j oj hoj h k hk, Bool.true_or]
     ·have hji : j = i := by simpa using h
      subst hji
      obtain rfl : o = oj := by rw [ho] at hoj; injection hoj
      rw [hdone k hk, Bool.true_or]
    ·have := filled_put hs hn hF ho hni v
     have he : (fun j => (listed.setIfInBounds i true).getD j false) = (fun j => listed.getD j false || j == i) := funext hset
     rw [he]
     exact this
    ·intro j oj hoj hj hlive
     by_cases hji : j = i
     ·subst hji
      simpa using hv
     ·rw [hset] at hj
      have hj' : listed.getD j false = true := by simpa [hji] using hj
      simp only [if_neg hji]
      have hlive' : fin j = true ∨ ∃ k ok d, l[k]? = some ok ∧ oj.dst = some d ∧ d ∈ ok.looksAt l.toArray ∧ listed.getD k false = false := by
       rcases hlive with h | ⟨k, ok, d, hk, hd, hlk, hkn⟩
       ·exact .inl h
       ·refine .inr ⟨k, ok, d, hk, hd, hlk, ?_⟩
        rw [hset] at hkn
        simp only [Bool.or_eq_false_iff] at hkn
        exact hkn.1
      have hRj := hR j oj hoj hj' hlive'
      cases hwd : wd j with
      | false => exact hnw j _ w w' hwd hRj
      | true =>
       cases hmi : mem i with
       | false => rw [hnm i w w' hmi hE]; exact hRj
       | true =>
        have hk2 := all_at h2 ho
        simp only [hmi, Bool.not_true, Bool.false_or] at hk2
        have hk3 := all_at hk2 hoj
        simp only [hwd, Bool.not_true, Bool.or_false] at hk3
        rw [show (j == i) = false by simpa using hji, Bool.false_or] at hk3
        cases hcc : cs.contains (i, j) with
        | true => exact hst (i, j) (by simpa using hcc) _ w w' hG hRj hE
        | false =>
         exfalso
         have hna : awaits oj i = false := by
          cases hb : awaits oj i with
          | false => rfl
          | true =>
           have := hcl j oj hoj hj' i hb
           rw [hni] at this
           cases this
         rw [hcc, hna, Bool.false_or, Bool.false_or, Bool.and_eq_true] at hk3
         rcases hlive with h | ⟨k, ok, d, hk, hd, hlk, hkn⟩
         ·rw [h] at hk3
          simp at hk3
         ·have hk4 := all_at hk3.2 hk
          rw [hset] at hkn
          simp only [Bool.or_eq_false_iff, beq_eq_false_iff_ne] at hkn
          simp only [hd, Bool.or_eq_true, beq_iff_eq, Bool.not_eq_true'] at hk4
          rcases hk4 with (h | h) | h
          ·exact hkn.2 h
          ·have : (ok.looksAt l.toArray).contains d = true := by simpa using hlk
           rw [this] at h
           cases h
          ·have := hdone k h
           rw [hkn.1] at this
           cases this
 have hz : ∀ j : Nat, (Array.replicate l.toArray.size false).getD j false = false := fun j => by
  rw [Array.getD_eq_getD_getElem?, Array.getElem?_replicate]
  split <;> rfl
 refine main l.toArray.size (Array.replicate l.toArray.size false) a0 w0.drew (fun _ => undef) (by simp) (by rw [Array.toList_replicate, List.count_replicate_self]) (fun j oj _ hj => by rw [hz] at hj; cases hj) h0 ⟨rfl, rfl, fun j o d _ hj => ?_, fun _ _ => rfl⟩ fun j oj _ hj => ?_
 ·rw [hz] at hj
  cases hj
 ·rw [hz] at hj
  cases hj
def reads (l : List Oper) (o : Oper) (j : Nat) : Bool :=
 awaits o j && (match l[j]? with | some oj => (match oj.dst with | some d => (o.looksAt l.toArray).contains d | none => false) | none => false)
def OpsP (p : Nat → Oper → Prop) : Nat → List Oper → Prop
 | _, [] => True
 | k, o :: l => p k o ∧ OpsP p (k + 1) l
theorem opsP_at (p : Nat → Oper → Prop) : ∀ (l : List Oper) (k : Nat), OpsP p k l → ∀ i o, l[i]? = some o → p (k + i) o
 | [], _, _, i, o, h => by simp at h
 | o0 :: l, k, hp, i, o, h => by
  cases i with
  | zero => simp at h; subst h; exact hp.1
  | succ i => rw [show k + (i + 1) = k + 1 + i by omega]; exact opsP_at p l (k + 1) hp.2 i o (by simpa using h)
inductive Eff where
 | keeps
 | grows
 | turns (E : World → World → Prop)
structure Tell where
 val : Option Value
 R : Value → World → Prop
 eff : Eff
def Tell.is (v : Value) : Tell := ⟨some v, fun _ _ => True, .keeps⟩
def Tell.gets (R : Value → World → Prop) : Tell := ⟨none, R, .keeps⟩
def Tell.makes (R : Value → World → Prop) : Tell := ⟨none, R, .grows⟩
def Tell.draws (v : Value) : Tell := ⟨some v, fun _ _ => True, .grows⟩
def Tell.turns (R : Value → World → Prop) (E : World → World → Prop) : Tell := ⟨none, R, .turns E⟩
def Tell.sets (E : World → World → Prop) : Tell := ⟨none, fun _ _ => True, .turns E⟩
def tellAt : List Tell → Nat → Option Tell
 | [], _ => none
 | t :: _, 0 => some t
 | _ :: l, k + 1 => tellAt l k
def tellV (ts : List Tell) (vals : Nat → Value) (j : Nat) : Value := match tellAt ts j with | some t => (match t.val with | some c => c | none => vals j) | none => vals j
def tellR (ts : List Tell) (j : Nat) (v : Value) (w : World) : Prop := match tellAt ts j with | some t => (match t.val with | some c => v = c | none => t.R v w) | none => True
def tellE (ts : List Tell) (i : Nat) (w w' : World) : Prop := match tellAt ts i with | some t => (match t.eff with | .turns E => E w w' | .grows => Below w.heap.size w w' | .keeps => w' = w) | none => w' = w
def tellMem (ts : List Tell) (i : Nat) : Bool := match tellAt ts i with | some t => (match t.eff with | .keeps => false | _ => true) | none => false
def tellTurns (ts : List Tell) (i : Nat) : Bool := match tellAt ts i with | some t => (match t.eff with | .turns _ => true | _ => false) | none => false
def tellWd (ts : List Tell) (j : Nat) : Bool := match tellAt ts j with | some t => t.val.isNone | none => false
def tellFin (ts : List Tell) (fin : List Nat) (j : Nat) : Bool := fin.contains j || (match tellAt ts j with | some t => t.val.isSome | none => false)
def Grows (R : Value → World → Prop) : Prop := ∀ v w w', R v w → Below w.heap.size w w' → R v w'
def growAll : List Tell → Prop
 | [] => True
 | t :: ts => (match t.val with | some _ => True | none => Grows t.R) ∧ growAll ts
theorem growAll_at : ∀ (ts : List Tell) (j : Nat) (t : Tell), growAll ts → tellAt ts j = some t → t.val = none → Grows t.R
 | [], _, _, _, h, _ => by simp [tellAt] at h
 | t0 :: ts, 0, t, hg, h, hv => by
  simp only [tellAt, Option.some.injEq] at h
  subst h
  have := hg.1
  rw [hv] at this
  exact this
 | t0 :: ts, j + 1, t, hg, h, hv => growAll_at ts j t hg.2 h hv
def fillT (vals : Nat → Value) : List Oper → List Tell → Nat → Act → Act
 | [], _, _, a => a
 | o :: l, [], k, a => fillT vals l [] (k + 1) (a.put o.dst (vals k))
 | o :: l, t :: ts, k, a => fillT vals l ts (k + 1) (a.put o.dst (match t.val with | some c => c | none => vals k))
theorem fillT_eq (vals : Nat → Value) : ∀ (l : List Oper) (ts : List Tell) (k : Nat) (a : Act) (V : Nat → Value), (∀ j, V (k + j) = (match tellAt ts j with | some t => (match t.val with | some c => c | none => vals (k + j)) | none => vals (k + j))) → fillAll V l k a = fillT vals l ts k a
 | [], _, _, _, _, _ => by simp only [fillAll, fillT]
 | o :: l, [], k, a, V, h => by
  have h0 : V k = vals k := h 0
  rw [fillAll, fillT, h0]
  exact fillT_eq vals l [] (k + 1) _ V fun j => by
   have := h (j + 1)
   simp only [tellAt] at this ⊢
   rw [show k + 1 + j = k + (j + 1) by omega]
   exact this
 | o :: l, t :: ts, k, a, V, h => by
  have h0 : V k = (match t.val with | some c => c | none => vals k) := h 0
  rw [fillAll, fillT, h0]
  exact fillT_eq vals l ts (k + 1) _ V fun j => by
   have := h (j + 1)
   simp only [tellAt] at this ⊢
   rw [show k + 1 + j = k + (j + 1) by omega]
   exact this
theorem fill_congr {vals vals' : Nat → Value} : ∀ (l : List Oper) (k : Nat) (a : Act), (∀ j, j < l.length → vals (k + j) = vals' (k + j)) → fillAll vals l k a = fillAll vals' l k a
 | [], _, _, _ => rfl
 | o :: l, k, a, h => by
  have h0 : vals k = vals' k := h 0 (by simp)
  rw [fillAll, fillAll, h0]
  exact fill_congr l (k + 1) _ fun j hj => by
   have := h (j + 1) (by simpa using hj)
   rw [show k + 1 + j = k + (j + 1) by omega]
   exact this
def tellPost (ts : List Tell) (B : Nat) (w0 : World) (G : World → Prop) (i : Nat) (w : World) (v : Value) (w' : World) : Prop :=
 match tellAt ts i with
 | some t => (match t.val with | some c => v = c | none => t.R v w') ∧ (match t.eff with | .keeps => w' = w | .grows => Below w.heap.size w w' | .turns E => Below B w0 w' ∧ G w' ∧ w.heap.size ≤ w'.heap.size ∧ E w w')
 | none => w' = w
theorem tellPost_gives {ts : List Tell} {B : Nat} {w0 : World} {G : World → Prop} {i : Nat} {w w' : World} {v : Value} (hB : B ≤ w.heap.size) (hw : Below B w0 w) (hG : G w) (hGg : ∀ w w', G w → Below w.heap.size w w' → G w')
  (h : tellPost ts B w0 G i w v w') : tellR ts i v w' ∧ (Below B w0 w' ∧ B ≤ w'.heap.size ∧ G w') ∧ tellE ts i w w' := by
 unfold tellPost at h
 unfold tellR tellE
 cases ht : tellAt ts i with
 | none => rw [ht] at h; simp only at h; subst h; exact ⟨trivial, ⟨hw, hB, hG⟩, rfl⟩
 | some t =>
  rw [ht] at h
  simp only at h ⊢
  refine ⟨h.1, ?_⟩
  have h2 := h.2
  cases he : t.eff with
  | keeps => rw [he] at h2; simp only at h2 ⊢; subst h2; exact ⟨⟨hw, hB, hG⟩, rfl⟩
  | grows => rw [he] at h2; simp only at h2 ⊢; exact ⟨⟨hw.trans (h2.mono hB), Nat.le_trans hB h2.size, hGg _ _ hG h2⟩, h2⟩
  | turns E => rw [he] at h2; simp only at h2 ⊢; exact ⟨⟨h2.1, Nat.le_trans hB h2.2.2.1, h2.2.1⟩, h2.2.2.2⟩
section
variable {ts : List Tell} {B : Nat} {w0 : World} {G : World → Prop} {i : Nat} {w w' : World} {v : Value}
theorem q04 {c : Value} (h : tellAt ts i = some (.is c)) : tellPost ts B w0 G i w c w := by
 unfold tellPost; rw [h]; exact ⟨rfl, rfl⟩
theorem q0B {R : Value → World → Prop} (h : tellAt ts i = some (.gets R)) (hr : R v w) : tellPost ts B w0 G i w v w := by
 unfold tellPost; rw [h]; exact ⟨hr, rfl⟩
theorem q18 {c : Value} (h : tellAt ts i = some (.draws c)) (hb : Below w.heap.size w w') : tellPost ts B w0 G i w c w' := by
 unfold tellPost; rw [h]; exact ⟨rfl, hb⟩
theorem q21 {R : Value → World → Prop} (h : tellAt ts i = some (.makes R)) (hr : R v w') (hb : Below w.heap.size w w') : tellPost ts B w0 G i w v w' := by
 unfold tellPost; rw [h]; exact ⟨hr, hb⟩
theorem q16 {R : Value → World → Prop} {E : World → World → Prop} (h : tellAt ts i = some (.turns R E)) (hr : R v w') (hb : Below B w0 w') (hG : G w') (hs : w.heap.size ≤ w'.heap.size) (hE : E w w') : tellPost ts B w0 G i w v w' := by
 unfold tellPost; rw [h]; exact ⟨hr, hb, hG, hs, hE⟩
theorem q15 {E : World → World → Prop} (h : tellAt ts i = some (.sets E)) (hb : Below B w0 w') (hG : G w') (hs : w.heap.size ≤ w'.heap.size) (hE : E w w') : tellPost ts B w0 G i w v w' := by
 unfold tellPost; rw [h]; exact ⟨trivial, hb, hG, hs, hE⟩
end
theorem q1E {id n : Nat} {a0 : Act} {w0 : World} (B : Nat) (G : World → Prop) (ts : List Tell) (fin : List Nat) (cs : List (Nat × Nat))
  (hm : P.follows .mixedOrders = true) (hn : a0.tmps.size = n) (h1 : rgOps n l = true) (h2 : rgKept l (tellTurns ts) (tellWd ts) (tellFin ts fin) cs = true)
  (hgr : growAll ts) (hGg : ∀ w w', G w → Below w.heap.size w w' → G w')
  (hst : ∀ p ∈ cs, ∀ v w w', G w → tellR ts p.2 v w → tellE ts p.1 w w' → tellR ts p.2 v w') (hB : B ≤ w0.heap.size) (h0 : G w0.drew)
  (hop : OpsP (fun i o => ∀ vals w, Below B w0 w → G w → (∀ j, reads l o j = true → tellR ts j (vals j) w) → OneOp P l (fillT vals l ts 0 a0) o w (tellPost ts B w0 G i w)) 0 l)
  (hend : ∀ vals w, Below B w0 w → G w → (∀ j, j < l.length → j ∈ fin → tellR ts j (vals j) w) → Q .normal (fillT vals l ts 0 a0) w) : (Code.region id l.toArray true).wp P Q a0 w0 := by
 have hs := sane_of h1
 have hfT : ∀ vals, fillT vals l ts 0 a0 = fillAll (tellV ts vals) l 0 a0 := fun vals => (fillT_eq vals l ts 0 a0 (tellV ts vals) fun j => by simp only [Nat.zero_add, tellV]).symm
 -- the pairs: those that turn memory by cs; those that grow it by 'growAll'
 have hk : rgKept l (tellMem ts) (tellWd ts) (tellFin ts fin) (cs ++ (List.range l.length).flatMap fun i => if tellTurns ts i then [] else (List.range l.length).map fun j => (i, j)) = true := by
  unfold rgKept at h2 ⊢
  rw [List.all_eq_true] at h2 ⊢
  rintro ⟨oi, i⟩ hoi
  have hi : i < l.length := by
   have := List.mem_zipIdx_iff_getElem?.1 hoi
   exact (List.getElem?_eq_some_iff.1 (by simpa using this)).1
  have g := h2 (oi, i) hoi
  simp only [] at g ⊢
  cases hti : tellTurns ts i with
  | true =>
   rw [hti] at g
   simp only [Bool.not_true, Bool.false_or] at g
   refine Bool.or_eq_true _ _ ▸ Or.inr ?_
   rw [List.all_eq_true] at g ⊢
   rintro ⟨oj, j⟩ hoj
   have g2 := g (oj, j) hoj
   simp only [] at g2 ⊢
   cases hc : cs.contains (i, j) with
   | false =>
    rw [hc] at g2
    have mono : ∀ a b c d e : Bool, (a || b || false || d || e) = true → (a || b || c || d || e) = true := by decide
    exact mono _ _ _ _ _ g2
   | true =>
    have : (cs ++ (List.range l.length).flatMap fun i => if tellTurns ts i then [] else (List.range l.length).map fun j => (i, j)).contains (i, j) = true := by
     simp only [List.contains_iff_mem, List.mem_append] at hc ⊢
     exact .inl hc
    rw [this]
    simp
  | false =>
   refine Bool.or_eq_true _ _ ▸ Or.inr ?_
   rw [List.all_eq_true]
   rintro ⟨oj, j⟩ hoj
   have hj : j < l.length := by
    have := List.mem_zipIdx_iff_getElem?.1 hoj
    exact (List.getElem?_eq_some_iff.1 (by simpa using this)).1
   have : (cs ++ (List.range l.length).flatMap fun i => if tellTurns ts i then [] else (List.range l.length).map fun j => (i, j)).contains (i, j) = true := by
    simp only [List.contains_iff_mem, List.mem_append, List.mem_flatMap, List.mem_range]
    refine .inr ⟨i, hi, ?_⟩
    rw [hti]
    simpa using hj
   simp only [this, Bool.or_true, Bool.true_or]
 refine region_rg (fun w => Below B w0 w ∧ B ≤ w.heap.size ∧ G w) (tellR ts) (tellE ts) (tellMem ts) (tellWd ts) (tellFin ts fin) _ hm hn h1 hk (fun i w w' h he => ?_) (fun j v w w' h hr => ?_) ?_ ⟨(Below.refl _ _).drew, hB, h0⟩ (fun i o ho vals w hG hd => ?_) fun vals w hG hr => ?_
 ·unfold tellMem at h
  unfold tellE at he
  cases ht : tellAt ts i with
  | none => rw [ht] at he; exact he
  | some t =>
   rw [ht] at he h
   cases hE : t.eff with
   | keeps => simp only [hE] at he; exact he
   | grows => simp [hE] at h
   | turns E => simp [hE] at h
 ·unfold tellWd at h
  unfold tellR at hr ⊢
  cases ht : tellAt ts j with
  | none => trivial
  | some t =>
   rw [ht] at hr h
   cases hE : t.val with
   | none => simp [hE] at h
   | some c => simp only [hE] at hr ⊢; exact hr
 ·rintro ⟨i, j⟩ hp v w w' hG hr he
  rw [List.mem_append] at hp
  rcases hp with hp | hp
  ·exact hst (i, j) hp v w w' hG.2.2 hr he
  ·simp only [List.mem_flatMap, List.mem_range] at hp
   obtain ⟨i', _, hp⟩ := hp
   cases hti : tellTurns ts i' with
   | true => rw [hti] at hp; simp at hp
   | false =>
    rw [hti] at hp
    simp only [Bool.false_eq_true, if_false, List.mem_map, Prod.mk.injEq] at hp
    obtain ⟨j', _, rfl, rfl⟩ := hp
    unfold tellTurns at hti
    unfold tellE at he
    unfold tellR at hr ⊢
    cases htj : tellAt ts j' with
    | none => trivial
    | some tj =>
     rw [htj] at hr
     simp only at hr ⊢
     cases hv : tj.val with
     | some c => rw [hv] at hr; exact hr
     | none =>
      rw [hv] at hr
      simp only at hr ⊢
      cases ht : tellAt ts i' with
      | none => rw [ht] at he; simp only at he; rw [he]; exact hr
      | some t =>
       rw [ht] at he hti
       simp only at he hti
       cases hE : t.eff with
       | keeps => rw [hE] at he; simp only at he; rw [he]; exact hr
       | grows => rw [hE] at he; exact growAll_at ts j' tj hgr htj hv v w w' hr he
       | turns E => rw [hE] at hti; simp at hti
 ·have hd' : ∀ j, reads l o j = true → tellR ts j (vals j) w := fun j hj => by
   simp only [reads, Bool.and_eq_true] at hj
   refine hd j hj.1 ?_
   cases hl : l[j]? with
   | none => rw [hl] at hj; simp at hj
   | some oj =>
    cases hdst : oj.dst with
    | none => rw [hl] at hj; simp [hdst] at hj
    | some d => rw [hl] at hj; exact ⟨oj, d, rfl, hdst, by simpa [hdst] using hj.2⟩
  have H := opsP_at _ l 0 hop i o ho
  simp only [Nat.zero_add] at H
  have H := H vals w hG.1 hG.2.2 hd'
  rw [hfT] at H
  refine ⟨fun K hK => ?_⟩
  refine one_gives (fun cs b => Region.noSelect_spec hs.sel i o cs b (by simpa using ho)) (fun d hdst => by rw [fill_size, hn]; exact hs.inb i o d ho hdst) (fun t ht => ?_) H
   (fun v w' hp => hK v w' (tellPost_gives hG.2.1 hG.1 hG.2.2 hGg hp))
  by_cases hx : ∃ (j : Nat) (o' : Oper), l[j]? = some o' ∧ o'.dst = some t
  ·obtain ⟨j, o', ho', hdst⟩ := hx
   have hu := fun (j' : Nat) (o'' : Oper) (h' : l[j']? = some o'') (hd'' : o''.dst = some t) => hs.uniq j o' j' o'' t ho' h' hdst hd''
   rw [fill_at _ t l 0 a0 j o' ho' hdst (by rw [hn]; exact hs.inb j o' t ho' hdst) hu, fill_at _ t l 0 a0 j o' ho' hdst (by rw [hn]; exact hs.inb j o' t ho' hdst) hu]
   have hr := hd j (hs.reads i o j o' t ho ho' hdst ht) ⟨o', t, ho', hdst, ht⟩
   unfold tellR at hr
   unfold tellV
   simp only [Nat.zero_add]
   cases htj : tellAt ts j with
   | none => rfl
   | some tt =>
    rw [htj] at hr
    cases hv : tt.val with
    | none => simp only [hv]
    | some c => simp only [hv] at hr ⊢; rw [hr]
  ·have hno : ∀ o ∈ l, o.dst ≠ some t := fun o ho hdst => by
    obtain ⟨j, hj⟩ := List.getElem?_of_mem ho
    exact hx ⟨j, o, hj, hdst⟩
   rw [q2B _ t l 0 a0 hno, q2B _ t l 0 a0 hno]
 ·have he : fillAll vals l 0 a0 = fillT vals l ts 0 a0 := by
   rw [hfT]
   refine fill_congr l 0 a0 fun j hj => ?_
   simp only [Nat.zero_add]
   unfold tellV
   cases ht : tellAt ts j with
   | none => rfl
   | some t =>
    cases hv : t.val with
    | none => simp only [hv]
    | some c =>
     have := hr j hj (by simp [tellFin, ht, hv])
     unfold tellR at this
     rw [ht] at this
     simp only [hv] at this ⊢
     exact this
  rw [he]
  exact hend vals w hG.1 hG.2.2 fun j hj hf => hr j hj (by simp [tellFin, hf])
theorem q02 {a1 : Act} {o : Oper} {w : World} {post : Value → World → Prop} {v : Value} (hg : o.guard = none) (hr : (execOp a1.eval o).run P w = .ok (.value v) w) (hp : post v w) : OneOp P l a1 o w post := by
 refine ⟨fun K hK => ?_⟩
 rw [if_pos (by simp [Region.wanted, hg])]
 unfold Oper.wp
 rw [hr]
 exact hK v w hp
theorem q1D {a1 : Act} {o : Oper} {w w' : World} {post : Value → World → Prop} {v : Value} (hg : o.guard = none) (hr : (execOp a1.eval o).run P w = .ok (.value v) w') (hp : post v w') : OneOp P l a1 o w post := by
 refine ⟨fun K hK => ?_⟩
 rw [if_pos (by simp [Region.wanted, hg])]
 unfold Oper.wp
 rw [hr]
 exact hK v w' hp
theorem q14 {a1 : Act} {o : Oper} {w w' : World} {post : Value → World → Prop} (hg : o.guard = none) (hr : (execOp a1.eval o).run P w = .ok .skip w') (hp : post undef w') : OneOp P l a1 o w post := by
 refine ⟨fun K hK => ?_⟩
 rw [if_pos (by simp [Region.wanted, hg])]
 unfold Oper.wp
 rw [hr]
 exact hK undef w' hp
theorem q12 {a1 : Act} {o : Oper} {w w1 : World} {post : Value → World → Prop} {f : FuncId} {args : Array Value} (hg : o.guard = none) (hr : (execOp a1.eval o).run P w = .ok (.enter f args) w1)
  (hc : Calls P f args w1 (fun e w' => ∃ v, e = .returned v ∧ post v w')) : OneOp P l a1 o w post := by
 refine ⟨fun K hK => ?_⟩
 rw [if_pos (by simp [Region.wanted, hg])]
 unfold Oper.wp
 rw [hr]
 refine Calls.mono hc fun e w' h => ?_
 obtain ⟨v, rfl, hp⟩ := h
 exact hK v w' hp
theorem q36 {a1 : Act} {o : Oper} {w : World} {post : Value → World → Prop} (hg : o.guard = none) (s x : Operand) (t : TypeId)
  (ho : o.op = .call { callee := .builtin .append, args := #[s, x], argTypes := #[t, t] })
  (base : Nat) (e : TypeId) (z : Value) (size bytes : Nat) (ht : P.underlying t = some (.slice e)) (hi : (P.info? e).map (fun i => (i.zero, i.size, i.bytes)) = some (some z, size, bytes)) (hzs : z.cells.size = size) (hsz : 0 < size)
  {v : Value} {n : Nat} {xs : List Value} (hs : a1.eval s = v) (hown : w.ownsRow base e size v n xs)
  {B : Nat} {A : Option Addr} {m c : Nat} {news : List Value} (hx : a1.eval x = .slice A m c) (hr : Reads w B size A m news) (h1 : ∀ u ∈ news, u.oneCell' = true)
  (h63 : n + m ≤ maxLen) (hbytes : (n + m) * bytes ≤ 140737488355328) (hbase : base ≤ w.heap.size)
  (h : ∀ v' w', w'.ownsRow base e size v' (n + m) (xs ++ news) → w.grownBy w' v.ownBlock → (v'.ownBlock = v.ownBlock ∨ v'.ownBlock = some w.heap.size) → post v' w') : OneOp P l a1 o w post := by
 obtain ⟨i, hi, hz, hsize, hby⟩ := info_parts hi
 refine ⟨fun K hK => ?_⟩
 rw [if_pos (by simp [Region.wanted, hg])]
 exact wp_append_any w s x t ho base e i z size bytes ht hi hz hsize hby hzs hsz v n xs hs hown B A m c news hx hr h1 h63 hbytes hbase fun v' w' h2 h3 h4 => hK v' w' (h v' w' h2 h3 h4)
theorem one_not {a1 : Act} {o : Oper} {w : World} {post : Value → World → Prop} (hw : Region.wanted o (yielded l.toArray a1.tmps) = false) (hp : post undef w) : OneOp P l a1 o w post := by
 refine ⟨fun K hK => ?_⟩
 rw [if_neg (by rw [hw]; simp)]
 exact hK undef w hp
end
end
section
theorem info_ent : (Try.prog.info? 55).map (fun i => (i.zero, i.size, i.bytes)) = some (some (.agg #[.int .i64 0, .int .i64 0, .int .i64 0, .int .i64 0, .int .i64 0, .bool false, .bool false, .bool false]), 8, 48) := by kernel_rfl
theorem q2C : (Try.prog.info? 3).map (fun i => (i.zero, i.size, i.bytes)) = some (some (.int .i64 0), 1, 8) := by kernel_rfl
def OwnE (w : World) (B : Nat) (v : Value) (l : List Ent) : Prop := w.ownsRow B 55 8 v l.length (entCs l)
def OwnI (w : World) (B : Nat) (v : Value) (l : List Int) : Prop := w.ownsRow B 3 1 v l.length (intCs l)
def GivesE (w : World) (l : List Ent) (e : Ending) (w' : World) : Prop := ∃ v, e = .returned v ∧ OwnE w' w.heap.size v l ∧ Below w.heap.size w w'
def GivesI (w : World) (l : List Int) (e : Ending) (w' : World) : Prop := ∃ v, e = .returned v ∧ OwnI w' w.heap.size v l ∧ Below w.heap.size w w'
theorem own_past {w w' : World} {base : Nat} {e : TypeId} {size : Nat} {v : Value} {n : Nat} {xs : List Value} (h : w.ownsRow base e size v n xs) (hb : Below w.heap.size w w') : w'.ownsRow base e size v n xs :=
 h.kept (row := none) ⟨hb.os, hb.tape, hb.output, hb.size, fun k hk _ => hb.block k hk⟩ (by cases v.ownBlock <;> simp)
theorem own_lower {w : World} {base base' : Nat} {e : TypeId} {size : Nat} {v : Value} {n : Nat} {xs : List Value} (h : w.ownsRow base e size v n xs) (hb : base' ≤ base) : w.ownsRow base' e size v n xs := by
 refine ⟨h.1, ?_⟩
 rcases h.2 with hn | ⟨g, cap, cur, hv, hg, rest⟩
 ·exact .inl hn
 ·exact .inr ⟨g, cap, cur, hv, by omega, rest⟩
theorem q2F {w : World} {base : Nat} {e : TypeId} {size : Nat} {v : Value} {n : Nat} {xs : List Value} (h : w.ownsRow base e size v n xs) : ∃ A c, v = .slice A n c ∧ n ≤ c ∧ Reads w w.heap.size size A n xs := by
 rcases h.2 with ⟨rfl, rfl⟩ | ⟨g, cap, cur, rfl, hg, hh, hc, rest⟩
 ·have : xs = [] := List.eq_nil_of_length_eq_zero (by simpa using h.1)
  subst this
  exact ⟨none, 0, rfl, Nat.le_refl _, Reads.none_⟩
 ·exact ⟨_, cap, rfl, hc, Reads.of_own h⟩
theorem OwnE.nil {w : World} {B : Nat} : OwnE w B (.slice none 0 0) [] := World.ownsRow_nil _ _ _ _
theorem OwnI.nil {w : World} {B : Nat} : OwnI w B (.slice none 0 0) [] := World.ownsRow_nil _ _ _ _
theorem OwnE.past {w w' : World} {B : Nat} {v : Value} {l : List Ent} (h : OwnE w B v l) (hb : Below w.heap.size w w') : OwnE w' B v l := own_past h hb
theorem OwnI.past {w w' : World} {B : Nat} {v : Value} {l : List Int} (h : OwnI w B v l) (hb : Below w.heap.size w w') : OwnI w' B v l := own_past h hb
theorem OwnE.lower {w : World} {B B' : Nat} {v : Value} {l : List Ent} (h : OwnE w B v l) (hb : B' ≤ B) : OwnE w B' v l := own_lower h hb
theorem OwnI.lower {w : World} {B B' : Nat} {v : Value} {l : List Int} (h : OwnI w B v l) (hb : B' ≤ B) : OwnI w B' v l := own_lower h hb
theorem OwnE.shape {w : World} {B : Nat} {v : Value} {l : List Ent} (h : OwnE w B v l) : ∃ A c, v = .slice A l.length c ∧ l.length ≤ c ∧ RdE w A l := q2F h
theorem OwnI.shape {w : World} {B : Nat} {v : Value} {l : List Int} (h : OwnI w B v l) : ∃ A c, v = .slice A l.length c ∧ l.length ≤ c ∧ RdI w A l := q2F h
theorem OwnE.grows {B : Nat} {l : List Ent} : Grows (fun v w' => OwnE w' B v l) := fun _ _ _ h hb => h.past hb
theorem OwnI.grows {B : Nat} {l : List Int} : Grows (fun v w' => OwnI w' B v l) := fun _ _ _ h hb => h.past hb
theorem q00 (w : World) (o : Obj) : Below w.heap.size w (w.alloc o) := (Below.refl _ _).alloc (Nat.le_refl _) o
set_option maxHeartbeats 400000 in
theorem clone_ent (A : Option Addr) (c : Nat) (l : List Ent) (w : World) (hr : RdE w A l) (hn : l.length ≤ 1000000) :
  Calls Try.prog 91 #[.slice A l.length c] w (GivesE w l) := by
 obtain ⟨i0, hi0, hz0, hz1, hz2⟩ := info_parts info_ent
 have hnil := fun (w : World) (A : Option Addr) (n c : Nat) => Lib.run_eql_slice_nil (P := Try.prog) w 39 55 A n c 0 0 Try.underlying39
 have hown : (w.alloc (.cells #[] 55)).ownsRow w.heap.size 55 8 (.slice (some ⟨w.heap.size, 0, none⟩) 0 0) 0 [] := World.ownsRow_made w #[] 0 (Nat.le_refl _) (by simp [maxLen]) (by simp)
 have hrd : Reads (w.alloc (.cells #[] 55)) w.heap.size 8 A l.length (entCs l) := hr.below ((Below.refl _ _).alloc (Nat.le_refl _) _)
 have HR := Kept.mk hr
 clear hr
 have HW := Kept.mk hown
 have HD := Kept.mk hrd
 clear hown hrd
 cases A with
 | none =>
  go_enter Try.func91, Try.ntmps91
  go_wp2_with fail
  go_ret
  have hl : l = [] := by
   rcases Nat.eq_zero_or_pos l.length with h0 | h0
   ·exact List.eq_nil_of_length_eq_zero h0
   ·obtain ⟨ad, h, _⟩ := HR.out.2 h0
    cases h
  subst hl
  exact ⟨_, rfl, World.ownsRow_nil _ _ _ _, Below.refl _ _⟩
 | some ad =>
  go_enter Try.func91, Try.ntmps91
  go_wp2_with (at_builtin; refine q1F _ rfl (.tmp 5) (.tmp 6) _ rfl w.heap.size 55 i0 _ 8 48 Try.underlying39 hi0 hz0 hz1 hz2 rfl (by omega) _ 0 [] rfl HW.out w.heap.size (some ad) l.length c (entCs l) rfl HD.out (q33 l) ?c1 ?c2 ?c3 ?_)
  case c1 => simp only [maxLen]; omega
  case c2 => omega
  case c3 => simp
  intro v' w' h1 h2 _
  go_wp2_with fail
  go_ret
  refine ⟨v', rfl, by simpa [OwnE] using h1, ((Below.refl _ w).alloc (Nat.le_refl _) _).grown h2 (by simp) (fun k hk => ?_)⟩
  simp [Value.ownBlock] at hk
  omega
set_option maxHeartbeats 400000 in
theorem clone_int (A : Option Addr) (c : Nat) (l : List Int) (w : World) (hr : RdI w A l) (hn : l.length ≤ 1000000) :
  Calls Try.prog 54 #[.slice A l.length c] w (GivesI w l) := by
 obtain ⟨i0, hi0, hz0, hz1, hz2⟩ := info_parts q2C
 have hnil := fun (w : World) (A : Option Addr) (n c : Nat) => Lib.run_eql_slice_nil (P := Try.prog) w 22 3 A n c 0 0 Try.underlying22
 have hown : (w.alloc (.cells #[] 3)).ownsRow w.heap.size 3 1 (.slice (some ⟨w.heap.size, 0, none⟩) 0 0) 0 [] := World.ownsRow_made w #[] 0 (Nat.le_refl _) (by simp [maxLen]) (by simp)
 have hrd : Reads (w.alloc (.cells #[] 3)) w.heap.size 1 A l.length (intCs l) := hr.below ((Below.refl _ _).alloc (Nat.le_refl _) _)
 have HR := Kept.mk hr
 clear hr
 have HW := Kept.mk hown
 have HD := Kept.mk hrd
 clear hown hrd
 cases A with
 | none =>
  go_enter Try.func54, Try.ntmps54
  go_wp2_with fail
  go_ret
  have hl : l = [] := by
   rcases Nat.eq_zero_or_pos l.length with h0 | h0
   ·exact List.eq_nil_of_length_eq_zero h0
   ·obtain ⟨ad, h, _⟩ := HR.out.2 h0
    cases h
  subst hl
  exact ⟨_, rfl, World.ownsRow_nil _ _ _ _, Below.refl _ _⟩
 | some ad =>
  go_enter Try.func54, Try.ntmps54
  go_wp2_with (at_builtin; refine q1F _ rfl (.tmp 5) (.tmp 6) _ rfl w.heap.size 3 i0 _ 1 8 Try.underlying22 hi0 hz0 hz1 hz2 rfl (by omega) _ 0 [] rfl HW.out w.heap.size (some ad) l.length c (intCs l) rfl HD.out (q28 l) ?c1 ?c2 ?c3 ?_)
  case c1 => simp only [maxLen]; omega
  case c2 => omega
  case c3 => simp
  intro v' w' h1 h2 _
  go_wp2_with fail
  go_ret
  refine ⟨v', rfl, by simpa [OwnI] using h1, ((Below.refl _ w).alloc (Nat.le_refl _) _).grown h2 (by simp) (fun k hk => ?_)⟩
  simp [Value.ownBlock] at hk
  omega
theorem q06 {W : World} {o : Obj} {g : Nat} (h : g = W.heap.size) : (W.alloc o).heap[g]? = some o := by subst h; exact heap_alloc_new W o
theorem q17 {w : World} {g n size : Nat} {cs : List Value} {t : TypeId} {fr : Nat × Nat} (h : w.heap[g]? = some (.cells cs.toArray t fr)) (hn : cs.length = n * size) : Reads w w.heap.size size (some ⟨g, 0, none⟩) n cs := by
 refine ⟨hn, fun _ => ⟨_, rfl, rfl, (Array.getElem?_eq_some_iff.1 h).1, fun j u hu => ?_⟩⟩
 rw [cell_of_row w g (0 + j) cs.toArray t fr h]
 simpa using hu
theorem append_ent {ops : Array Oper} {rest : List Oper} {o : Oper} {a : Act} {Q : Exit → Act → World → Prop} (W : World) (hgd : o.guard = none) (s x : Operand)
  (ho : o.op = .call { callee := .builtin .append, args := #[s, x], argTypes := #[39, 39] }) (B : Nat) {v : Value} {l : List Ent} (hs : a.eval s = v) (hown : OwnE W B v l) (g : Nat) (e : Ent)
  (hx : a.eval x = .slice (some ⟨g, 0, none⟩) 1 1) (hg : W.heap[g]? = some (.cells e.cs.toArray 55 (0, 0))) (hl : l.length < 1000000) (hB : B ≤ W.heap.size)
  (h : ∀ v' w', OwnE w' B v' (l ++ [e]) → W.grownBy w' v.ownBlock → Below B W w' → wpList Try.prog ops Q rest (a.put o.dst v') w') : wpList Try.prog ops Q (o :: rest) a W := by
 obtain ⟨i0, hi0, hz0, hz1, hz2⟩ := info_parts info_ent
 refine q1F W hgd s x _ ho B 55 i0 _ 8 48 Try.underlying39 hi0 hz0 hz1 hz2 rfl (by omega) v l.length (entCs l) hs hown W.heap.size (some ⟨g, 0, none⟩) 1 1 e.cs hx (q17 hg rfl) (by rw [← entCs_one]; exact q33 [e])
  (by simp only [maxLen]; omega) (by omega) hB fun v' w' h1 h2 _ => h v' w' ?_ h2 ((Below.refl _ _).grown h2 hB (fun k hk => (World.ownsRow.lt hown k hk).1))
 unfold OwnE
 rw [entCs_append, entCs_one, List.length_append]
 exact h1
theorem append_int {ops : Array Oper} {rest : List Oper} {o : Oper} {a : Act} {Q : Exit → Act → World → Prop} (W : World) (hgd : o.guard = none) (s x : Operand)
  (ho : o.op = .call { callee := .builtin .append, args := #[s, x], argTypes := #[22, 22] }) (B : Nat) {v : Value} {l : List Int} (hs : a.eval s = v) (hown : OwnI W B v l) (g : Nat) (n : Int)
  (hx : a.eval x = .slice (some ⟨g, 0, none⟩) 1 1) (hg : W.heap[g]? = some (.cells #[.int .i64 n] 3 (0, 0))) (hl : l.length < 1000000) (hB : B ≤ W.heap.size)
  (h : ∀ v' w', OwnI w' B v' (l ++ [n]) → W.grownBy w' v.ownBlock → Below B W w' → wpList Try.prog ops Q rest (a.put o.dst v') w') : wpList Try.prog ops Q (o :: rest) a W := by
 obtain ⟨i0, hi0, hz0, hz1, hz2⟩ := info_parts q2C
 refine q1F W hgd s x _ ho B 3 i0 _ 1 8 Try.underlying22 hi0 hz0 hz1 hz2 rfl (by omega) v l.length (intCs l) hs hown W.heap.size (some ⟨g, 0, none⟩) 1 1 (intCs [n]) hx (q17 hg rfl) (q28 [n])
  (by simp only [maxLen]; omega) (by omega) hB fun v' w' h1 h2 _ => h v' w' ?_ h2 ((Below.refl _ _).grown h2 hB (fun k hk => (World.ownsRow.lt hown k hk).1))
 unfold OwnI
 rw [intCs_append, List.length_append]
 exact h1
theorem append_ents {ops : Array Oper} {rest : List Oper} {o : Oper} {a : Act} {Q : Exit → Act → World → Prop} (W : World) (hgd : o.guard = none) (s x : Operand)
  (ho : o.op = .call { callee := .builtin .append, args := #[s, x], argTypes := #[39, 39] }) (B : Nat) {v : Value} {l : List Ent} (hs : a.eval s = v) (hown : OwnE W B v l) {A : Option Addr} {c : Nat} {m : List Ent}
  (hx : a.eval x = .slice A m.length c) (hr : RdE W A m) (hl : l.length + m.length < 1000000) (hB : B ≤ W.heap.size)
  (h : ∀ v' w', OwnE w' B v' (l ++ m) → W.grownBy w' v.ownBlock → Below B W w' → wpList Try.prog ops Q rest (a.put o.dst v') w') : wpList Try.prog ops Q (o :: rest) a W := by
 obtain ⟨i0, hi0, hz0, hz1, hz2⟩ := info_parts info_ent
 refine q1F W hgd s x _ ho B 55 i0 _ 8 48 Try.underlying39 hi0 hz0 hz1 hz2 rfl (by omega) v l.length (entCs l) hs hown W.heap.size A m.length c (entCs m) hx hr (q33 m)
  (by simp only [maxLen]; omega) (by omega) hB fun v' w' h1 h2 _ => h v' w' ?_ h2 ((Below.refl _ _).grown h2 hB (fun k hk => (World.ownsRow.lt hown k hk).1))
 unfold OwnE
 rw [entCs_append, List.length_append]
 exact h1
theorem append_nums {ops : Array Oper} {rest : List Oper} {o : Oper} {a : Act} {Q : Exit → Act → World → Prop} (W : World) (hgd : o.guard = none) (s x : Operand)
  (ho : o.op = .call { callee := .builtin .append, args := #[s, x], argTypes := #[22, 22] }) (B : Nat) {v : Value} {l : List Int} (hs : a.eval s = v) (hown : OwnI W B v l) {A : Option Addr} {c : Nat} {m : List Int}
  (hx : a.eval x = .slice A m.length c) (hr : RdI W A m) (hl : l.length + m.length < 1000000) (hB : B ≤ W.heap.size)
  (h : ∀ v' w', OwnI w' B v' (l ++ m) → W.grownBy w' v.ownBlock → Below B W w' → wpList Try.prog ops Q rest (a.put o.dst v') w') : wpList Try.prog ops Q (o :: rest) a W := by
 obtain ⟨i0, hi0, hz0, hz1, hz2⟩ := info_parts q2C
 refine q1F W hgd s x _ ho B 3 i0 _ 1 8 Try.underlying22 hi0 hz0 hz1 hz2 rfl (by omega) v l.length (intCs l) hs hown W.heap.size A m.length c (intCs m) hx hr (q28 m)
  (by simp only [maxLen]; omega) (by omega) hB fun v' w' h1 h2 _ => h v' w' ?_ h2 ((Below.refl _ _).grown h2 hB (fun k hk => (World.ownsRow.lt hown k hk).1))
 unfold OwnI
 rw [intCs_append, List.length_append]
 exact h1
theorem OwnE.made {w : World} {B : Nat} (hB : B ≤ w.heap.size) : OwnE (w.alloc (.cells #[] 55)) B (.slice (some ⟨w.heap.size, 0, none⟩) 0 0) [] := World.ownsRow_made w #[] 0 hB (by simp [maxLen]) (by simp)
theorem OwnI.made {w : World} {B : Nat} (hB : B ≤ w.heap.size) : OwnI (w.alloc (.cells #[] 3)) B (.slice (some ⟨w.heap.size, 0, none⟩) 0 0) [] := World.ownsRow_made w #[] 0 hB (by simp [maxLen]) (by simp)
theorem clone_ent_at (A : Option Addr) (n c : Nat) (l : List Ent) (w : World) (hl : l.length = n) (hr : RdE w A l) (hn : n ≤ 1000000) :
  Calls Try.prog 91 #[.slice A n c] w (GivesE w l) := by
 subst hl
 exact clone_ent A c l w hr hn
theorem clone_int_at (A : Option Addr) (n c : Nat) (l : List Int) (w : World) (hl : l.length = n) (hr : RdI w A l) (hn : n ≤ 1000000) :
  Calls Try.prog 54 #[.slice A n c] w (GivesI w l) := by
 subst hl
 exact clone_int A c l w hr hn
end
section
@[go_sem] def Ent.v (e : Ent) : Value := .agg #[.int .i64 e.pc, .int .i64 e.val, .int .i64 e.addr, .int .i64 e.frm, .int .i64 e.next, .bool e.done, .bool e.known, .bool e.fault]
end
section
def Ent.down (e : Ent) : Ent := if 0 ≤ e.frm then { e with frm := e.frm - 1 } else e
def popEnts (l : List Ent) : List Ent := l.tail.map Ent.down
def Ent.zero : Ent := ⟨0, 0, 0, 0, 0, false, false, false⟩
def Ent.small (e : Ent) : Prop := -9223372036854775808 ≤ e.frm ∧ e.frm ≤ 9223372036854775807
theorem cut_ent_from {w : World} {A : Option Addr} {l : List Ent} (h : RdE w A l) {c : Nat} (hc : l.length ≤ c) (k : Nat) (hk : k ≤ l.length) :
  ∃ A1, (∀ w1, (Instr.slice 39 (.slice A l.length c) (some (.int .i64 (k : Int))) none none).run Try.prog w1 = .ok (.slice A1 (l.length - k) (c - k)) w1) ∧ RdE w A1 (l.drop k) := by
 obtain ⟨i, hi, _, hs, _⟩ := info_parts info_ent
 refine ⟨if c = k then A else A.map (·.add (k * 8)), fun w1 => ?_, h.from_ hk hc⟩
 have := run_cut_from (P := Try.prog) 39 55 i 8 hs Try.underlying39 hi A l.length c (k : Int) (by omega) (by omega) w1
 simpa using this
def Small (l : List Ent) : Prop := ∀ e ∈ l, e.small
def EntAt (w : World) (b o : Nat) (e : Ent) : Prop :=
 w.cell? ⟨b, o, none⟩ = some (.int .i64 e.pc) ∧ w.cell? ⟨b, o + 1, none⟩ = some (.int .i64 e.val) ∧ w.cell? ⟨b, o + 2, none⟩ = some (.int .i64 e.addr) ∧ w.cell? ⟨b, o + 3, none⟩ = some (.int .i64 e.frm) ∧
 w.cell? ⟨b, o + 4, none⟩ = some (.int .i64 e.next) ∧ w.cell? ⟨b, o + 5, none⟩ = some (.bool e.done) ∧ w.cell? ⟨b, o + 6, none⟩ = some (.bool e.known) ∧ w.cell? ⟨b, o + 7, none⟩ = some (.bool e.fault)
theorem EntAt.of_cells {w : World} {b o : Nat} {e : Ent} (h : ∀ j u, j < 8 → e.cs[j]? = some u → w.cell? ⟨b, o + j, none⟩ = some u) : EntAt w b o e :=
 ⟨h 0 _ (by omega) rfl, h 1 _ (by omega) rfl, h 2 _ (by omega) rfl, h 3 _ (by omega) rfl, h 4 _ (by omega) rfl, h 5 _ (by omega) rfl, h 6 _ (by omega) rfl, h 7 _ (by omega) rfl⟩
theorem RdE.elem {w : World} {A : Option Addr} {l : List Ent} (h : RdE w A l) {k : Nat} (hk : k < l.length) : ∃ b o, A = some ⟨b, o, none⟩ ∧ b < w.heap.size ∧ EntAt w b (o + k * 8) l[k] := by
 obtain ⟨b, o, e, hb, h⟩ := h.at_ hk
 exact ⟨b, o, e, hb, h⟩
theorem RdE.head {w : World} {A : Option Addr} {e : Ent} {l : List Ent} (h : RdE w A (e :: l)) : ∃ b o, A = some ⟨b, o, none⟩ ∧ b < w.heap.size ∧ EntAt w b o e := by
 obtain ⟨b, o, e, hb, h⟩ := h.elem (k := 0) (by simp)
 exact ⟨b, o, e, hb, by simpa using h⟩
def FreeAt (w : World) (b o : Nat) : Prop :=
 w.frozen? ⟨b, o, none⟩ = false ∧ w.frozen? ⟨b, o + 1, none⟩ = false ∧ w.frozen? ⟨b, o + 2, none⟩ = false ∧ w.frozen? ⟨b, o + 3, none⟩ = false ∧ w.frozen? ⟨b, o + 4, none⟩ = false ∧ w.frozen? ⟨b, o + 5, none⟩ = false ∧ w.frozen? ⟨b, o + 6, none⟩ = false ∧ w.frozen? ⟨b, o + 7, none⟩ = false
theorem FreeAt.of_all {w : World} {b : Nat} (h : ∀ j, w.frozen? ⟨b, j, none⟩ = false) (o : Nat) : FreeAt w b o := ⟨h _, h _, h _, h _, h _, h _, h _, h _⟩
theorem FreeAt.of_block {w : World} {g : Nat} {t : TypeId} {cs : Array Value} (h : w.heap[g]? = some (.cells cs t (0, 0))) (o : Nat) : FreeAt w g o := FreeAt.of_all (fun j => frozen_of_row w g j cs t h) o
theorem q08 (w : World) (p : Addr) (u : Value) : w.grownBy (w.setCell p u) (some p.block) := ⟨rfl, rfl, rfl, by simp [World.setCell], fun k _ hk => heap_setCell_other w p k u (fun e => hk (by rw [e]))⟩
theorem own_far {w : World} {base : Nat} {e : TypeId} {size : Nat} {v : Value} {n : Nat} {xs : List Value} (h : w.ownsRow base e size v n xs) {p : Addr} (hp : p.block < base) (u : Value) : (w.setCell p u).ownsRow base e size v n xs :=
 h.kept (q08 w p u) (by
  cases hv : v.ownBlock with
  | none => exact .inl rfl
  | some g => exact .inr (fun e => by injection e with e; have := (h.lt g hv).1; omega))
theorem OwnE.far {w : World} {B : Nat} {v : Value} {l : List Ent} (h : OwnE w B v l) {p : Addr} (hp : p.block < B) (u : Value) : OwnE (w.setCell p u) B v l := own_far h hp u
theorem OwnI.far {w : World} {B : Nat} {v : Value} {l : List Int} (h : OwnI w B v l) {p : Addr} (hp : p.block < B) (u : Value) : OwnI (w.setCell p u) B v l := own_far h hp u
theorem box_set {w : World} {g : Nat} {t : TypeId} (old e : Ent) (h : w.heap[g]? = some (.cells old.cs.toArray t (0, 0))) :
  ((((((((w.setCell ⟨g, 0, none⟩ (.int .i64 e.pc)).setCell ⟨g, 1, none⟩ (.int .i64 e.val)).setCell ⟨g, 2, none⟩ (.int .i64 e.addr)).setCell ⟨g, 3, none⟩ (.int .i64 e.frm)).setCell ⟨g, 4, none⟩ (.int .i64 e.next)).setCell ⟨g, 5, none⟩ (.bool e.done)).setCell ⟨g, 6, none⟩ (.bool e.known)).setCell ⟨g, 7, none⟩ (.bool e.fault)).heap[g]? =
   some (.cells e.cs.toArray t (0, 0)) := by
 rw [heap_setCell_same _ g 7 _ t _ (heap_setCell_same _ g 6 _ t _ (heap_setCell_same _ g 5 _ t _ (heap_setCell_same _ g 4 _ t _ (heap_setCell_same _ g 3 _ t _ (heap_setCell_same _ g 2 _ t _ (heap_setCell_same _ g 1 _ t _ (heap_setCell_same _ g 0 _ t _ h)))))))]
 simp [Ent.cs]
theorem OwnE.elem {w : World} {B : Nat} {A : Option Addr} {n c : Nat} {l : List Ent} (h : OwnE w B (.slice A n c) l) {k : Nat} (hk : k < l.length) :
  ∃ g, A = some ⟨g, 0, none⟩ ∧ B ≤ g ∧ g < w.heap.size ∧ EntAt w g (k * 8) l[k] ∧ ∀ j, w.frozen? ⟨g, j, none⟩ = false := by
 have hn : n = l.length := by
  rcases h.2 with ⟨hv, h0⟩ | ⟨g, cap, cur, hv, _⟩
  ·simp at hv; omega
  ·simp at hv; omega
 subst hn
 obtain ⟨g, cap, hv, hb, hlt⟩ := h.form (by omega)
 simp only [Value.slice.injEq, true_and] at hv
 obtain ⟨rfl, rfl⟩ := hv
 refine ⟨g, rfl, hb, hlt, EntAt.of_cells fun j u hj hu => ?_, fun j => h.frozenAt j⟩
 rw [h.cellAt (k * 8 + j) (by omega), entCs_get l k hk j hj, hu]
theorem entCs_set (l : List Ent) (k : Nat) (hk : k < l.length) (j : Nat) (hj : j < 8) (u : Value) (e' : Ent) (he : e'.cs = l[k].cs.set j u) : (entCs l).set (k * 8 + j) u = entCs (l.set k e') := by
 induction l generalizing k with
 | nil => simp at hk
 | cons e l ih =>
  cases k with
  | zero =>
   simp only [List.getElem_cons_zero] at he
   simp only [entCs, List.flatMap_cons, List.set_cons_zero, Nat.zero_mul, Nat.zero_add]
   rw [List.set_append_left _ _ (by rw [Ent.cs_length]; omega), he]
  | succ k =>
   simp only [List.getElem_cons_succ] at he
   simp only [entCs, List.flatMap_cons, List.set_cons_succ]
   rw [List.set_append_right _ _ (by rw [Ent.cs_length]; omega), Ent.cs_length, show (k + 1) * 8 + j - 8 = k * 8 + j by omega]
   have := ih k (by simpa using hk) he
   simp only [entCs] at this
   rw [this]
theorem OwnE.setAt {w : World} {B g n c : Nat} {l : List Ent} (h : OwnE w B (.slice (some ⟨g, 0, none⟩) n c) l) (hn : n = l.length) {k : Nat} (hk : k < l.length) {j : Nat} (hj : j < 8) {u : Value} {e' : Ent} (he : e'.cs = l[k].cs.set j u) :
  OwnE (w.setCell ⟨g, k * 8 + j, none⟩ u) B (.slice (some ⟨g, 0, none⟩) n c) (l.set k e') := by
 subst hn
 unfold OwnE at h ⊢
 rw [List.length_set, ← entCs_set l k hk j hj u e' he]
 exact (h.stored (k * 8 + j) u).1
theorem downs_step (l : List Ent) (k : Nat) (hk : k < l.length) : ((l.take k).map Ent.down ++ l.drop k).set k l[k].down = (l.take (k + 1)).map Ent.down ++ l.drop (k + 1) := by
 rw [List.set_append_right _ _ (by simp only [List.length_map, List.length_take]; omega)]
 have : k - ((l.take k).map Ent.down).length = 0 := by simp only [List.length_map, List.length_take]; omega
 rw [this, List.drop_eq_getElem_cons hk, List.set_cons_zero, List.take_succ_eq_append_getElem hk, List.map_append, List.append_assoc]
 rfl
set_option maxRecDepth 100000 in
set_option maxHeartbeats 1000000 in
theorem pop_some (A : Option Addr) (c : Nat) (e : Ent) (l : List Ent) (w : World) (hr : RdE w A (e :: l)) (hc : l.length + 1 ≤ c) (hn : l.length < 1000000) (hs : Small l) :
  Calls Try.prog 64 #[.slice A (l.length + 1) c] w fun en w' => ∃ v, en = .returned (.tuple #[e.v, v, .bool true]) ∧ OwnE w' w.heap.size v (l.map Ent.down) ∧ Below w.heap.size w w' := by
 obtain ⟨A1, hcut, hr1⟩ := cut_ent_from hr hc 1 (by simp)
 have hcut : ∀ w1, (Instr.slice 39 (.slice A (l.length + 1) c) (some (.int .i64 1)) none none).run Try.prog w1 = .ok (.slice A1 l.length (c - 1)) w1 := hcut
 simp only [List.drop_succ_cons, List.drop_zero] at hr1
 have HR := Kept.mk hr
 have HR1 := Kept.mk hr1
 have HS := Kept.mk hs
 clear hr hr1 hs
 go_enter Try.func64, Try.ntmps64
 go_wp2_with fail
 refine (clone_ent A1 (c - 1) l _ (HR1.out.past (q00 w _)) (by omega)).mono ?_
 rintro en w1 ⟨v, rfl, h1, h2⟩
 obtain ⟨A2, c2, rfl, hc2, -⟩ := h1.shape
 have HB := Kept.mk (h2.mono (show w.heap.size + 1 ≤ _ by simp))
 have H1 := Kept.mk (h1.lower (show w.heap.size + 1 ≤ _ by simp))
 clear h1 h2 hcut HR1
 go_wp2_with fail
 go_loopw [17] (fun i wr => ∃ k : Nat, k ≤ l.length ∧ i = .int .i64 k ∧ OwnE wr (w.heap.size + 1) (.slice A2 l.length c2) ((l.take k).map Ent.down ++ l.drop k) ∧ Below (w.heap.size + 1) (w.alloc (.cells Ent.zero.cs.toArray 55)) wr) (fun i _ => l.length - (intOf i).toNat)
 case atStart => exact ⟨0, Nat.zero_le _, rfl, by simpa using H1.out, HB.out⟩
 case round =>
  obtain ⟨k, hk, rfl, ho, hb⟩ := hrel
  by_cases hlt : k < l.length
  ·have hlen : k < ((l.take k).map Ent.down ++ l.drop k).length := by
    simp only [List.length_append, List.length_map, List.length_take, List.length_drop]; omega
   have hcur : ((l.take k).map Ent.down ++ l.drop k)[k]'hlen = l[k] := by
    rw [List.getElem_append_right (by simp only [List.length_map, List.length_take]; omega)]
    simp [Nat.min_eq_left hk]
   obtain ⟨g, rfl, hg1, hg2, hcell, hfz⟩ := ho.elem hlen
   rw [hcur] at hcell
   obtain ⟨q0, q1, q2, q3, q4, q5, q6, q7⟩ := hcell
   have HO := Kept.mk ho
   have HB2 := Kept.mk hb
   have hf3 := hfz (k * 8 + 3)
   have hsm := HS.out l[k] (List.getElem_mem hlt)
   have hsm1 : l[k].frm ≤ 9223372036854775807 := hsm.2
   clear ho hb hfz hsm
   have hcur2 : ((l.take k).map Ent.down ++ l.drop k)[k]'hlen = l[k] := hcur
   have HC := Kept.mk hcur2
   clear hcur hcur2
   by_cases hf : 0 ≤ l[k].frm
   ·go_wp2_with fail
    refine ⟨⟨k + 1, by omega, by go_num, ?_, ?_⟩, by simp [intOf]; omega⟩
    ·have hd : l[k].down.cs = l[k].cs.set 3 (.int .i64 (l[k].frm - 1)) := by simp [Ent.down, hf, Ent.cs]
     have := HO.out.setAt (by simp only [List.length_append, List.length_map, List.length_take, List.length_drop]; omega) hlen (j := 3) (by omega) (u := .int .i64 (l[k].frm - 1)) (e' := l[k].down) (by rw [HC.out]; exact hd)
     rw [downs_step l k hlt] at this
     exact this.past (q00 _ _)
    ·exact (HB2.out.setCell (p := ⟨g, k * 8 + 3, Option.none⟩) (by simpa using hg1) _).alloc (by have := HB2.out.size; simp at this ⊢; omega) _
   ·go_wp2_with fail
    refine ⟨⟨k + 1, by omega, by go_num, ?_, ?_⟩, by simp [intOf]; omega⟩
    ·have hd : l[k].down = l[k] := by simp [Ent.down, hf]
     have e1 := downs_step l k hlt
     rw [hd] at e1
     have e2 : ((l.take k).map Ent.down ++ l.drop k).set k l[k] = (l.take k).map Ent.down ++ l.drop k := by
      have := HC.out
      conv => lhs; rw [← this]
      exact List.set_getElem_self hlen
     rw [← e1, e2]
     exact HO.out.past (q00 _ _)
    ·exact HB2.out.alloc (by have := HB2.out.size; simp at this ⊢; omega) _
  ·have hke : k = l.length := by omega
   have HO := Kept.mk ho
   have HB2 := Kept.mk hb
   clear ho hb
   have hbox : wr.heap[w.heap.size]? = some (.cells Ent.zero.cs.toArray 55 (0, 0)) := (HB2.out.block _ (by omega)).trans (heap_alloc_new w _)
   obtain ⟨f0, f1, f2, f3, f4, f5, f6, f7⟩ := FreeAt.of_block hbox 0
   obtain ⟨z0, z1, z2, z3, z4, z5, z6, z7⟩ := EntAt.of_cells (e := Ent.zero) (fun j u _ hu => q05 (cs := Ent.zero.cs) hbox j u hu)
   obtain ⟨b, o, rfl, hlt0, e0, e1, e2, e3, e4, e5, e6, e7⟩ := ((HR.out.past (q00 w (.cells Ent.zero.cs.toArray 55))).past (HB2.out.mono (by simp))).head
   have HX := Kept.mk hbox
   clear hbox
   simp only [Nat.zero_add] at f0 f1 f2 f3 f4 f5 f6 f7 z0 z1 z2 z3 z4 z5 z6 z7
   go_wp2_with fail
   refine q0C _ [e.v, .slice A2 l.length c2, .bool true] Try.results64 (.cons (.cell (cs := e.cs) (b := w.heap.size) (off := 0) rfl rfl (q05 (box_set Ent.zero e HX.out)) Try.underlying55 rfl (by kernel_rfl)) (.cons (.tmp rfl) (.cons (.tmp rfl) .nil))) rfl ⟨_, rfl, ?_, ?_⟩
   ·have h := HO.out
    rw [hke, List.take_length, List.drop_length, List.append_nil] at h
    refine OwnE.lower (B := w.heap.size + 1) ?_ (by omega)
    have hm : l.length = (l.map Ent.down).length := by simp
    rw [hm] at h ⊢
    iterate 8 refine OwnE.far ?_ (by simp) _
    exact h
   ·iterate 8 refine Below.setCell ?_ (by simp) _
    exact (q00 w _).trans (HB2.out.mono (by omega))
end
section
theorem take_step {α : Type} [DecidableEq α] {l m : List α} {k : Nat} (hl : k < l.length) (hm : k < m.length) (h : l.take k = m.take k) : l.take (k + 1) = m.take (k + 1) ↔ l[k] = m[k] := by
 rw [List.take_succ_eq_append_getElem hl, List.take_succ_eq_append_getElem hm, h]
 constructor
 ·intro he
  have := List.append_cancel_left he
  simpa using this
 ·intro he
  rw [he]
theorem take_ne {α : Type} {l m : List α} {k : Nat} (hl : k < l.length) (hm : k < m.length) (h : l[k] ≠ m[k]) : l ≠ m := fun he => h (by subst he; rfl)
set_option maxRecDepth 100000 in
set_option maxHeartbeats 1000000 in
theorem ref_pop (A : Option Addr) (c : Nat) (l : List Ent) (w : World) (hr : RdE w A l) (hn : l.length < 1000000) (hs : Small l) :
  Calls Try.prog 33 #[.slice A l.length c] w (GivesE w (popEnts l)) := by
 have HR := Kept.mk hr
 have HS := Kept.mk hs
 clear hr hs
 go_enter Try.func33, Try.ntmps33
 go_wp2_with fail
 go_loopw [3, 4] (fun v i wr => ∃ k : Nat, k ≤ (popEnts l).length ∧ i = .int .i64 ((k : Int) + 1) ∧ OwnE wr w.heap.size v ((popEnts l).take k) ∧ Below w.heap.size w wr) (fun _ i _ => l.length - (intOf i).toNat)
 case atStart => exact ⟨0, Nat.zero_le _, rfl, by simpa using OwnE.nil, Below.refl _ _⟩
 case round =>
  obtain ⟨k, hk, rfl, ho, hb⟩ := hrel
  have hpl : (popEnts l).length = l.length - 1 := by simp [popEnts]
  by_cases hlt : k + 1 < l.length
  ·obtain ⟨b, o, rfl, hb1, q0, q1, q2, q3, q4, q5, q6, q7⟩ := (HR.out.past hb).elem hlt
   have hsm := HS.out l[k + 1] (List.getElem_mem hlt)
   have hsm1 : l[k + 1].frm ≤ 9223372036854775807 := hsm.2
   have hpk : (popEnts l).take (k + 1) = (popEnts l).take k ++ [l[k + 1].down] := by
    rw [List.take_succ_eq_append_getElem (by omega)]
    simp [popEnts]
   have hlk : ((popEnts l).take k).length < 1000000 := by rw [List.length_take]; omega
   have HO := Kept.mk ho
   have HB := Kept.mk hb
   have HP := Kept.mk hpl
   have HK := Kept.mk hpk
   have HL := Kept.mk hlk
   clear ho hb hsm hpl hpk hlk
   by_cases hf : 0 ≤ l[k + 1].frm
   ·have hd : l[k + 1].down = { l[k + 1] with frm := l[k + 1].frm - 1 } := by simp [Ent.down, hf]
    have HD := Kept.mk hd
    clear hd
    go_wp2_with (at_builtin; refine append_ent _ rfl (.tmp 23) (.tmp 25) rfl w.heap.size rfl ((HO.out.past (q00 _ _)).past (q00 _ _)) _ { l[k + 1] with frm := l[k + 1].frm - 1 } rfl (q06 (by simp)) HL.out ?c1 ?_)
    case c1 => have := HB.out.size; simp; omega
    rw [← HD.out, ← HK.out]
    intro v' w' h1 h2 h3
    have H1 := Kept.mk h1
    have H3 := Kept.mk h3
    clear h1 h2 h3
    go_wp2_with fail
    go_roundw
    case rel => exact ⟨k + 1, by have := HP.out; omega, by go_num, H1.out, ((HB.out.alloc HB.out.size _).alloc (by have := HB.out.size; simp; omega) _).trans H3.out⟩
    case measure => simp [intOf]; omega
   ·have hd : l[k + 1].down = l[k + 1] := by simp [Ent.down, hf]
    have HD := Kept.mk hd
    clear hd
    go_wp2_with (at_builtin; refine append_ent _ rfl (.tmp 23) (.tmp 25) rfl w.heap.size rfl ((HO.out.past (q00 _ _)).past (q00 _ _)) _ l[k + 1] rfl (q06 (by simp)) HL.out ?c1 ?_)
    case c1 => have := HB.out.size; simp; omega
    rw [← HD.out, ← HK.out]
    intro v' w' h1 h2 h3
    have H1 := Kept.mk h1
    have H3 := Kept.mk h3
    clear h1 h2 h3
    go_wp2_with fail
    go_roundw
    case rel => exact ⟨k + 1, by have := HP.out; omega, by go_num, H1.out, ((HB.out.alloc HB.out.size _).alloc (by have := HB.out.size; simp; omega) _).trans H3.out⟩
    case measure => simp [intOf]; omega
  ·have hke : (popEnts l).take k = popEnts l := List.take_of_length_le (by omega)
   rw [hke] at ho
   have HO := Kept.mk ho
   have HB := Kept.mk hb
   clear ho hb hke hpl
   go_wp2_with fail
   go_ret
   exact ⟨_, rfl, HO.out, HB.out⟩
end
end Go.Proofs.Ytchldbkjapnlcaa
