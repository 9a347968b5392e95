/- Words for memory that these proofs share: how rows of entries lie in memory, kept over what a call makes. -/
import Derived.Test.YtonlefopjpdecaaRows
import Derived.WalkKit
import Derived.WalkSpells
import Derived.WalkLawsBesides
import Derived.BigQuiet
import Derived.Deep.QuietTactic
import Derived.Deep.RegionHeld3
import Derived.Deep.RegionWith
import Derived.Deep.RegionLaw
import Derived.Deep.AppendLies
import Derived.Deep.DeepCutAuto
import Derived.Maps.AppendAt
import Derived.ProofKit
import Derived.Handy
namespace Go.Proofs.Ytonlefopjpdecaa
open Go.RowKit

/-- A fact that is kept from the walk. -/
structure Kept (p : Prop) : Prop where
  out : p

/-! ### Addresses -/
theorem block_of_add (a : Addr) (n : Nat) : (a.add n).block = a.block := by unfold Addr.add; split <;> rfl
theorem add_of_add (a : Addr) (i j : Nat) : (a.add i).add j = a.add (i + j) := by
  unfold Addr.add
  by_cases hi : i = 0 <;> by_cases hj : j = 0 <;> simp [hi, hj, Nat.add_assoc]

/-! ### A slice that reads as a list of cells -/
/-- The slice value with address A and n elements (size cells each) holds the cells xs, below block B. -/
def Reads (w : World) (B size : Nat) (A : Option Addr) (n : Nat) (xs : List Value) : Prop :=
  xs.length = n * size ∧ (0 < n → ∃ ad, A = some ad ∧ ad.spot = none ∧ ad.block < B ∧ ∀ j u, xs[j]? = some u → w.cell? ⟨ad.block, ad.off + j, none⟩ = some u)

section
variable {w w' : World} {B B' size n : Nat} {A : Option Addr} {xs : List Value}
theorem Reads.none_ : Reads w B size A 0 [] := ⟨by simp, fun h => absurd h (by omega)⟩
theorem Reads.keep (h : Reads w B size A n xs) (hk : ∀ p : Addr, p.block < B → w'.cell? p = w.cell? p) : Reads w' B size A n xs :=
  ⟨h.1, fun hn => by
    obtain ⟨ad, e, hs, hb, hc⟩ := h.2 hn
    exact ⟨ad, e, hs, hb, fun j u hu => (hk ⟨ad.block, ad.off + j, Option.none⟩ hb).trans (hc j u hu)⟩⟩
theorem Reads.more (h : Reads w B size A n xs) (hB : B ≤ B') : Reads w B' size A n xs :=
  ⟨h.1, fun hn => by
    obtain ⟨ad, e, hs, hb, hc⟩ := h.2 hn
    exact ⟨ad, e, hs, by omega, hc⟩⟩
theorem Reads.below (h : Reads w B size A n xs) (hb : Below B w w') : Reads w' B size A n xs := h.keep fun _ hp => hb.cell hp
/-- What a call leaves that turns nothing of what was there. -/
theorem Reads.past (h : Reads w w.heap.size size A n xs) (hb : Below w.heap.size w w') : Reads w' w'.heap.size size A n xs := (h.below hb).more hb.size
theorem Reads.drew (h : Reads w B size A n xs) : Reads w.drew B size A n xs := h
theorem Reads.drewN (h : Reads w B size A n xs) (k : Nat) : Reads (w.drewN k) B size A n xs := h
theorem Reads.of_own {base : Nat} {e : TypeId} {c : Nat} (h : w.ownsRow base e size (.slice A n c) n xs) : Reads w w.heap.size size A n xs := by
  refine ⟨h.1, fun hn => ?_⟩
  obtain ⟨g, cap, hv, _, hlt⟩ := h.form hn
  have hA : A = some ⟨g, 0, none⟩ := by injection hv
  subst hA
  refine ⟨_, rfl, rfl, hlt, fun j u hu => ?_⟩
  have := h.cells (g := g) rfl j u hu
  rwa [Addr.add_lit] at this
/-- The cells of element i. -/
theorem Reads.cells (h : Reads w B size A n xs) {i : Nat} (hi : i < n) : ∃ b o, A = some ⟨b, o, none⟩ ∧ b < B ∧ ∀ j u, j < size → xs[i * size + j]? = some u → w.cell? ⟨b, o + (i * size + j), none⟩ = some u := by
  obtain ⟨⟨b, o, s⟩, e, hs', hb, hc⟩ := h.2 (by omega)
  cases hs'
  exact ⟨b, o, e, hb, fun j u _ hu => hc _ u hu⟩
end

/-! ### Entries -/
structure Ent where
  pc : Int
  val : Int
  addr : Int
  frm : Int
  next : Int
  done : Bool
  known : Bool
  fault : Bool
  deriving DecidableEq, Inhabited

def Ent.cs (e : Ent) : List Value := [.int .i64 e.pc, .int .i64 e.val, .int .i64 e.addr, .int .i64 e.frm, .int .i64 e.next, .bool e.done, .bool e.known, .bool e.fault]
def entCs (l : List Ent) : List Value := l.flatMap Ent.cs
def intCs (l : List Int) : List Value := l.map (Value.int .i64)
theorem Ent.cs_length (e : Ent) : e.cs.length = 8 := rfl
theorem entCs_length (l : List Ent) : (entCs l).length = l.length * 8 := by
  induction l with
  | nil => rfl
  | cons e l ih => simp only [entCs, List.flatMap_cons, List.length_append, Ent.cs_length, List.length_cons]; have : (List.flatMap Ent.cs l).length = l.length * 8 := ih; omega
theorem entCs_append (l m : List Ent) : entCs (l ++ m) = entCs l ++ entCs m := by simp [entCs]
theorem entCs_one (e : Ent) : entCs [e] = e.cs := by simp [entCs]
theorem entCs_get (l : List Ent) (i : Nat) (h : i < l.length) (j : Nat) (hj : j < 8) : (entCs l)[i * 8 + j]? = l[i].cs[j]? := by
  induction l generalizing i with
  | nil => simp at h
  | cons e l ih =>
    cases i with
    | zero =>
      rw [entCs, List.flatMap_cons, List.getElem?_append_left (by rw [Ent.cs_length]; omega)]
      simp
    | succ i =>
      rw [entCs, List.flatMap_cons, List.getElem?_append_right (by rw [Ent.cs_length]; omega), Ent.cs_length]
      have := ih i (by simpa using h)
      rw [show (i + 1) * 8 + j - 8 = i * 8 + j by omega]
      simpa [entCs] using this
theorem one_of_int (k : IntKind) (n : Int) : (Value.int k n).oneCell' = true := rfl
theorem one_of_bool (b : Bool) : (Value.bool b).oneCell' = true := rfl
theorem entCs_one_cell (l : List Ent) : ∀ u ∈ entCs l, u.oneCell' = true := by
  intro u hu
  obtain ⟨e, _, he⟩ := List.mem_flatMap.1 hu
  simp only [Ent.cs, List.mem_cons, List.not_mem_nil, or_false] at he
  rcases he with rfl | rfl | rfl | rfl | rfl | rfl | rfl | rfl <;> rfl
theorem intCs_one_cell (l : List Int) : ∀ u ∈ intCs l, u.oneCell' = true := by
  intro u hu
  obtain ⟨_, _, rfl⟩ := List.mem_map.1 hu
  rfl
theorem intCs_length (l : List Int) : (intCs l).length = l.length := by simp [intCs]
theorem intCs_append (l m : List Int) : intCs (l ++ m) = intCs l ++ intCs m := by simp [intCs]

/-- A slice of entries. -/
def RdE (w : World) (A : Option Addr) (l : List Ent) : Prop := Reads w w.heap.size 8 A l.length (entCs l)
/-- A slice of ints. -/
def RdI (w : World) (A : Option Addr) (l : List Int) : Prop := Reads w w.heap.size 1 A l.length (intCs l)
theorem RdE.past {w w' : World} {A : Option Addr} {l : List Ent} (h : RdE w A l) (hb : Below w.heap.size w w') : RdE w' A l := Reads.past h hb
theorem RdI.past {w w' : World} {A : Option Addr} {l : List Int} (h : RdI w A l) (hb : Below w.heap.size w w') : RdI w' A l := Reads.past h hb
theorem RdE.at_ {w : World} {A : Option Addr} {l : List Ent} (h : RdE w A l) {i : Nat} (hi : i < l.length) :
    ∃ b o, A = some ⟨b, o, none⟩ ∧ b < w.heap.size ∧ w.cell? ⟨b, o + i * 8, none⟩ = some (.int .i64 l[i].pc) ∧ w.cell? ⟨b, o + i * 8 + 1, none⟩ = some (.int .i64 l[i].val) ∧ w.cell? ⟨b, o + i * 8 + 2, none⟩ = some (.int .i64 l[i].addr) ∧
      w.cell? ⟨b, o + i * 8 + 3, none⟩ = some (.int .i64 l[i].frm) ∧ w.cell? ⟨b, o + i * 8 + 4, none⟩ = some (.int .i64 l[i].next) ∧ w.cell? ⟨b, o + i * 8 + 5, none⟩ = some (.bool l[i].done) ∧ w.cell? ⟨b, o + i * 8 + 6, none⟩ = some (.bool l[i].known) ∧ w.cell? ⟨b, o + i * 8 + 7, none⟩ = some (.bool l[i].fault) := by
  obtain ⟨b, o, e, hb, hc⟩ := Reads.cells h hi
  have f : ∀ j u, j < 8 → l[i].cs[j]? = some u → w.cell? ⟨b, o + i * 8 + j, none⟩ = some u := fun j u hj hu => by
    rw [Nat.add_assoc]; exact hc j u hj (by rw [entCs_get l i hi j hj]; exact hu)
  exact ⟨b, o, e, hb, f 0 _ (by omega) rfl, f 1 _ (by omega) rfl, f 2 _ (by omega) rfl, f 3 _ (by omega) rfl, f 4 _ (by omega) rfl, f 5 _ (by omega) rfl, f 6 _ (by omega) rfl, f 7 _ (by omega) rfl⟩
theorem RdI.at_ {w : World} {A : Option Addr} {l : List Int} (h : RdI w A l) {i : Nat} (hi : i < l.length) : ∃ b o, A = some ⟨b, o, none⟩ ∧ b < w.heap.size ∧ w.cell? ⟨b, o + i, none⟩ = some (.int .i64 l[i]) := by
  obtain ⟨b, o, e, hb, hc⟩ := Reads.cells h hi
  refine ⟨b, o, e, hb, ?_⟩
  have := hc 0 (.int .i64 l[i]) (by omega) (by simp [intCs, hi])
  simpa using this

/-! ### append onto a row of the call's own, the source nil, empty or not -/
section
variable {P : Program} (w : World)

theorem run_append_of_nil (base : Nat) (t ty e : TypeId) (i : TypeInfo) (size : Nat) (ht : P.underlying t = some (.slice e)) (hi : P.info? e = some i)
    (v : Value) (n : Nat) (xs : List Value) (hown : w.ownsRow base e size v n xs) (c : Nat) : (Builtin.append_ #[t, t] ty #[v, .slice none 0 c]).run P w = .ok v w := by
  rcases hown.2 with ⟨rfl, rfl⟩ | ⟨g, cap, cur, rfl, _, _, hnc, _⟩
  · simp [Builtin.append_, run_underlying ht, sizeOf, typeInfo, hi, Builtin.lenOf, Builtin.firstCells]
  · simp [Builtin.append_, run_underlying ht, sizeOf, typeInfo, hi, Builtin.lenOf, Builtin.firstCells, hnc, storeCells]

theorem run_append_any (base : Nat) (t ty e : TypeId) (i : TypeInfo) (z : Value) (size bytes : Nat) (ht : P.underlying t = some (.slice e)) (hi : P.info? e = some i) (hz : i.zero = some z)
    (hsize : i.size = size) (hby : i.bytes = bytes) (hzs : z.cells.size = size) (hsz : 0 < size)
    (v : Value) (n : Nat) (xs : List Value) (hown : w.ownsRow base e size v n xs)
    (B : Nat) (A : Option Addr) (m c : Nat) (news : List Value) (hr : Reads w B size A m news) (h1 : ∀ u ∈ news, u.oneCell' = true)
    (h63 : n + m ≤ maxLen) (hbytes : (n + m) * bytes ≤ 140737488355328) (hbase : base ≤ w.heap.size) :
    ∃ v' w', (Builtin.append_ #[t, t] ty #[v, .slice A m c]).run P w = .ok v' w' ∧ w'.ownsRow base e size v' (n + m) (xs ++ news) ∧ w.grownBy w' v.ownBlock ∧
      (v'.ownBlock = v.ownBlock ∨ v'.ownBlock = some w.heap.size) := by
  have nil : m = 0 → news = [] := fun h0 => List.eq_nil_of_length_eq_zero (by rw [hr.1, h0]; simp)
  rcases A with _ | ad
  · have hm : m = 0 := by
      rcases Nat.eq_zero_or_pos m with h0 | h0
      · exact h0
      · obtain ⟨ad, h, _⟩ := hr.2 h0
        cases h
    subst hm
    cases nil rfl
    exact ⟨v, w, run_append_of_nil w base t ty e i size ht hi v n xs hown c, by simpa using hown, World.grownBy.refl w _, .inl rfl⟩
  · have hcells : ∀ j u, news[j]? = some u → w.cell? (ad.add j) = some u := by
      intro j u hu
      rcases Nat.eq_zero_or_pos m with h0 | h0
      · cases nil h0
        simp at hu
      · obtain ⟨ad', h, hs, _, hc⟩ := hr.2 h0
        injection h with h
        subst h
        obtain ⟨b, o, s⟩ := ad
        cases hs
        rw [Addr.add_lit]
        exact hc j u hu
    obtain ⟨v', w', hrun, h2, h3, _, h5⟩ := run_append_own_at (P := P) w base t ty e i z size bytes ht hi hz hsize hby hzs hsz v n xs hown ad m c news hr.1 hcells h1 h63 hbytes hbase
    exact ⟨v', w', hrun, h2, h3, h5⟩

theorem wp_append_any {o : Oper} {a : Act} {K : Act → World → Prop} {Q : Exit → Act → World → Prop} (s x : Operand) (t : TypeId)
    (ho : o.op = .call { callee := .builtin .append, args := #[s, x], argTypes := #[t, t] })
    (base : Nat) (e : TypeId) (i : TypeInfo) (z : Value) (size bytes : Nat) (ht : P.underlying t = some (.slice e)) (hi : P.info? e = some i) (hz : i.zero = some z)
    (hsize : i.size = size) (hby : i.bytes = bytes) (hzs : z.cells.size = size) (hsz : 0 < size)
    (v : Value) (n : Nat) (xs : List Value) (hs : a.eval s = v) (hown : w.ownsRow base e size v n xs)
    (B : Nat) (A : Option Addr) (m c : Nat) (news : List Value) (hx : a.eval x = .slice A m c) (hr : Reads w B size A m news) (h1 : ∀ u ∈ news, u.oneCell' = true)
    (h63 : n + m ≤ maxLen) (hbytes : (n + m) * bytes ≤ 140737488355328) (hbase : base ≤ w.heap.size)
    (h : ∀ v' w', w'.ownsRow base e size v' (n + m) (xs ++ news) → w.grownBy w' v.ownBlock → (v'.ownBlock = v.ownBlock ∨ v'.ownBlock = some w.heap.size) → K (a.put o.dst v') w') : o.wp P a w K Q := by
  obtain ⟨v', w', hrun, h2, h3, h4⟩ := run_append_any (P := P) w base t o.type e i z size bytes ht hi hz hsize hby hzs hsz v n xs hown B A m c news hr h1 h63 hbytes hbase
  unfold Oper.wp execOp
  simp only [ho, resolve, invoke, builtin, Sem.run_bind, Sem.run_pure, Result.andThen_ok, List.map_toArray, List.map_cons, List.map_nil, hs, hx, hrun]
  exact h v' w' h2 h3 h4

theorem wpList_append_any {ops : Array Oper} {rest : List Oper} {o : Oper} {a : Act} {Q : Exit → Act → World → Prop} (hgd : o.guard = none) (s x : Operand) (t : TypeId)
    (ho : o.op = .call { callee := .builtin .append, args := #[s, x], argTypes := #[t, t] })
    (base : Nat) (e : TypeId) (i : TypeInfo) (z : Value) (size bytes : Nat) (ht : P.underlying t = some (.slice e)) (hi : P.info? e = some i) (hz : i.zero = some z)
    (hsize : i.size = size) (hby : i.bytes = bytes) (hzs : z.cells.size = size) (hsz : 0 < size)
    (v : Value) (n : Nat) (xs : List Value) (hs : a.eval s = v) (hown : w.ownsRow base e size v n xs)
    (B : Nat) (A : Option Addr) (m c : Nat) (news : List Value) (hx : a.eval x = .slice A m c) (hr : Reads w B size A m news) (h1 : ∀ u ∈ news, u.oneCell' = true)
    (h63 : n + m ≤ maxLen) (hbytes : (n + m) * bytes ≤ 140737488355328) (hbase : base ≤ w.heap.size)
    (h : ∀ v' w', w'.ownsRow base e size v' (n + m) (xs ++ news) → w.grownBy w' v.ownBlock → (v'.ownBlock = v.ownBlock ∨ v'.ownBlock = some w.heap.size) → wpList P ops Q rest (a.put o.dst v') w') : wpList P ops Q (o :: rest) a w :=
  wpList_plain hgd fun _ hK => wp_append_any w s x t ho base e i z size bytes ht hi hz hsize hby hzs hsz v n xs hs hown B A m c news hx hr h1 h63 hbytes hbase fun v' w' h2 h3 h4 => hK _ _ (h v' w' h2 h3 h4)
end

/-! ### A whole struct loaded -/
section
variable {P : Program} {w : World}
theorem run_loadVar_cells (b off : Nat) (ty : TypeId) (cs : List Value) (d : TypeDesc) (hc : ∀ j u, cs[j]? = some u → w.cell? ⟨b, off + j, none⟩ = some u)
    (hu : P.underlying ty = some d) (hd : (match d with | .struct _ | .array _ _ => true | _ => false) = true) (hi : (P.info? ty).map (·.size) = some cs.length) :
    (loadVar ty ⟨b, off, none⟩).run P w = .ok (.agg cs.toArray) w := by
  have hl : (loadCells ⟨b, off, none⟩ cs.length).run P w = .ok cs.toArray w :=
    run_loadCells_list (P := P) w ⟨b, off, none⟩ cs (fun j v hv => by rw [Addr.add_lit]; exact hc j v hv)
  cases hq : P.info? ty with
  | none => simp [hq] at hi
  | some i =>
    have hs : i.size = cs.length := by simpa [hq] using hi
    have hagg : (isAgg ty).run P w = .ok true w := by
      unfold isAgg
      rw [Sem.run_bind, run_underlying hu w]
      cases d <;> simp_all
    simp [loadVar, Sem.run_bind, hagg, sizeOf, typeInfo, hq, hs, hl]
theorem exec_load_row {o : Oper} {ev : Operand → Value} {ty : TypeId} {x : Operand} (ho : o.op = .load ty x) {b off : Nat} (hx : ev x = .pointer (some ⟨b, off, none⟩)) (cs : List Value) {d : TypeDesc}
    (hc : ∀ j u, cs[j]? = some u → w.cell? ⟨b, off + j, none⟩ = some u) (hu : P.underlying ty = some d) (hd : (match d with | .struct _ | .array _ _ => true | _ => false) = true) (hi : (P.info? ty).map (·.size) = some cs.length) :
    (execOp ev o).run P w = .ok (.value (.agg cs.toArray)) w := by
  unfold execOp
  simp only [ho, hx, Instr.loadAt, Instr.sureAddr, Sem.run_bind, Sem.run_pure, Result.andThen_ok, run_loadVar_cells b off ty cs d hc hu hd hi]
/-- Of a block that is known whole. -/
theorem cells_of_block {g : Nat} {cs : List Value} {t : TypeId} {fr : Nat × Nat} (hg : w.heap[g]? = some (.cells cs.toArray t fr)) : ∀ j u, cs[j]? = some u → w.cell? ⟨g, 0 + j, none⟩ = some u := fun j u hu => by
  rw [Nat.zero_add, cell_of_row w g j cs.toArray t fr hg]; simpa using hu
end

/-! ### Cuts of a slice -/
section
variable {P : Program} {w : World}
theorem map_add_zero (A : Option Addr) : A.map (·.add 0) = A := by
  cases A with
  | none => rfl
  | some a => simp [Addr.add]
theorem run_cut_to (t e : TypeId) (i : TypeInfo) (ht : P.underlying t = some (.slice e)) (hi : P.info? e = some i) (A : Option Addr) (n c : Nat) (k : Int) (h0 : 0 ≤ k) (hk : k ≤ n) (hc : n ≤ c) (w : World) :
    (Instr.slice t (.slice A n c) none (some (.int .i64 k)) none).run P w = .ok (.slice A k.toNat c) w := by
  have he : P.elem t = e := by simp [Program.elem, ht]
  rw [run_slice_h (P := P) w t A n c (by rw [he]; exact ht) .i64 k h0 (by omega)]
  simp only [he, sizeOf, typeInfo, Sem.run_bind, Sem.run_pure, Result.andThen_ok, run_program, hi, sliced, Nat.zero_mul, map_add_zero, ite_self, Nat.sub_zero]
theorem run_cut_from (t e : TypeId) (i : TypeInfo) (size : Nat) (hs : i.size = size) (ht : P.underlying t = some (.slice e)) (hi : P.info? e = some i) (A : Option Addr) (n c : Nat) (k : Int) (h0 : 0 ≤ k) (hk : k ≤ n) (w : World) :
    (Instr.slice t (.slice A n c) (some (.int .i64 k)) none none).run P w = .ok (.slice (if c = k.toNat then A else A.map (·.add (k.toNat * size))) (n - k.toNat) (c - k.toNat)) w := by
  have he : P.elem t = e := by simp [Program.elem, ht]
  subst hs
  rw [run_slice_l (P := P) w t A n c (by rw [he]; exact ht) .i64 k h0 hk]
  simp only [he, sizeOf, typeInfo, Sem.run_bind, Sem.run_pure, Result.andThen_ok, run_program, hi, sliced]
theorem Reads.take {B size n : Nat} {A : Option Addr} {xs : List Value} (h : Reads w B size A n xs) {k : Nat} (hk : k ≤ n) : Reads w B size A k (xs.take (k * size)) := by
  refine ⟨by rw [List.length_take, h.1]; exact Nat.min_eq_left (Nat.mul_le_mul_right _ hk), fun hn => ?_⟩
  obtain ⟨ad, e, hs, hb, hc⟩ := h.2 (by omega)
  refine ⟨ad, e, hs, hb, fun j u hu => hc j u ?_⟩
  rw [List.getElem?_take] at hu
  split at hu
  · exact hu
  · cases hu
theorem Reads.cut {B size n : Nat} {A : Option Addr} {xs : List Value} (h : Reads w B size A n xs) {k cap : Nat} (hk : k ≤ n) (hc : n ≤ cap) :
    Reads w B size (if cap = k then A else A.map (·.add (k * size))) (n - k) (xs.drop (k * size)) := by
  refine ⟨by rw [List.length_drop, h.1, Nat.sub_mul], fun hn => ?_⟩
  obtain ⟨⟨b, o, s⟩, rfl, hs, hb, hcell⟩ := h.2 (by omega)
  cases hs
  rw [if_neg (by omega)]
  refine ⟨⟨b, o + k * size, Option.none⟩, by rw [Option.map_some, Addr.add_lit], rfl, hb, fun j u hu => ?_⟩
  have := hcell (k * size + j) u (by rw [← hu, List.getElem?_drop])
  simpa [Nat.add_assoc] using this
end
theorem entCs_take (l : List Ent) (k : Nat) (h : k ≤ l.length) : (entCs l).take (k * 8) = entCs (l.take k) := by
  have e := entCs_append (l.take k) (l.drop k)
  rw [List.take_append_drop] at e
  rw [e, List.take_left' (by rw [entCs_length, List.length_take]; omega)]
theorem entCs_drop (l : List Ent) (k : Nat) (h : k ≤ l.length) : (entCs l).drop (k * 8) = entCs (l.drop k) := by
  have e := entCs_append (l.take k) (l.drop k)
  rw [List.take_append_drop] at e
  rw [e, List.drop_left' (by rw [entCs_length, List.length_take]; omega)]
theorem RdE.to {w : World} {A : Option Addr} {l : List Ent} (h : RdE w A l) {k : Nat} (hk : k ≤ l.length) : RdE w A (l.take k) := by
  have := Reads.take h hk
  rw [entCs_take l k hk] at this
  unfold RdE
  rw [List.length_take, Nat.min_eq_left hk]
  exact this
theorem RdE.from_ {w : World} {A : Option Addr} {l : List Ent} (h : RdE w A l) {k c : Nat} (hk : k ≤ l.length) (hc : l.length ≤ c) : RdE w (if c = k then A else A.map (·.add (k * 8))) (l.drop k) := by
  have := Reads.cut h hk hc
  rw [entCs_drop l k hk] at this
  unfold RdE
  rw [List.length_drop]
  exact this
theorem RdI.to {w : World} {A : Option Addr} {l : List Int} (h : RdI w A l) {k : Nat} (hk : k ≤ l.length) : RdI w A (l.take k) := by
  have := Reads.take h hk
  unfold RdI
  rw [List.length_take, Nat.min_eq_left hk]
  simpa [intCs, List.map_take] using this
theorem RdI.from_ {w : World} {A : Option Addr} {l : List Int} (h : RdI w A l) {k c : Nat} (hk : k ≤ l.length) (hc : l.length ≤ c) : RdI w (if c = k then A else A.map (·.add (k * 1))) (l.drop k) := by
  have := Reads.cut h hk hc
  unfold RdI
  rw [List.length_drop]
  simpa [intCs, List.map_drop] using this

/-! ### Results, some of which lie in memory -/
section
variable {P : Program} {w : World}
/-- The result variable reads as v: a temporary, or a struct's cells. -/
inductive ResAt (P : Program) (w : World) (tmps : Array Value) : ResultVar → Value → Prop
  | tmp {t : Tmp} {v : Value} (h : tmps.getD t undef = v) : ResAt P w tmps (.tmp t) v
  | cell {p : Tmp} {ty : TypeId} {b off : Nat} {cs : List Value} {d : TypeDesc} {v : Value} (hv : v = .agg cs.toArray) (hp : tmps.getD p undef = .pointer (some ⟨b, off, none⟩)) (hc : ∀ j u, cs[j]? = some u → w.cell? ⟨b, off + j, none⟩ = some u)
      (hu : P.underlying ty = some d) (hd : (match d with | .struct _ | .array _ _ => true | _ => false) = true) (hi : (P.info? ty).map (·.size) = some cs.length) : ResAt P w tmps (.cell p ty) v
inductive ResAll (P : Program) (w : World) (tmps : Array Value) : List ResultVar → List Value → Prop
  | nil : ResAll P w tmps [] []
  | cons {r : ResultVar} {v : Value} {rs : List ResultVar} {vs : List Value} (h : ResAt P w tmps r v) (hs : ResAll P w tmps rs vs) : ResAll P w tmps (r :: rs) (v :: vs)
def resultOf (tmps : Array Value) : ResultVar → Sem Value
  | .tmp t => pure (tmps.getD t undef)
  | .cell a t => do loadVar t (← asAddr (tmps.getD a undef))
theorem results_is (fn : Func) (tmps : Array Value) : results fn tmps = (do let vs ← fn.results.mapM (resultOf tmps); pure (if h : vs.size = 1 then vs[0] else .tuple vs)) := by
  unfold results
  congr 1
theorem results_all {fn : Func} {tmps : Array Value} {rs : List ResultVar} {vs : List Value} (h : fn.results = rs.toArray) (hv : ResAll P w tmps rs vs) :
    (results fn tmps).run P w = .ok (if h : vs.toArray.size = 1 then vs.toArray[0] else .tuple vs.toArray) w := by
  have one : ∀ r v, ResAt P w tmps r v → (resultOf tmps r).run P w = .ok v w := by
    intro r v hr
    cases hr with
    | tmp h => simp only [resultOf, Sem.run_pure, h]
    | cell hv hp hc hu hd hi =>
      subst hv
      simp only [resultOf, hp, asAddr, Sem.run_bind, Sem.run_pure, Result.andThen_ok]
      exact run_loadVar_cells _ _ _ _ _ hc hu hd hi
  have all : ∀ rs vs, ResAll P w tmps rs vs → (rs.mapM (resultOf tmps)).run P w = .ok vs w := by
    intro rs vs hrs
    induction hrs with
    | nil => simp
    | cons h _ ih => rw [List.mapM_cons, Sem.run_bind, one _ _ h, Result.andThen_ok, Sem.run_bind, ih, Result.andThen_ok, Sem.run_pure]
  rw [results_is, h, List.mapM_toArray]
  simp only [Sem.run_bind, Sem.run_map, Result.andThen_ok, Sem.run_pure, all rs vs hv]
end

def pack : List Value → Value
  | [v] => v
  | vs => .tuple vs.toArray
theorem pack_eq (vs : List Value) : (if h : vs.toArray.size = 1 then vs.toArray[0] else .tuple vs.toArray) = pack vs := by
  match vs with
  | [] => rfl
  | [v] => rfl
  | _ :: _ :: _ => rfl
/-- At a return: what each result variable reads as. -/
theorem at_ret {P : Program} {fn : Func} {R : Ending → World → Prop} {a : Act} {w : World} (rs : List ResultVar) (vs : List Value) (h : fn.results = rs.toArray) (hv : ResAll P w a.tmps rs vs) (hd : a.defers = []) (hR : R (.returned (pack vs)) w) : bodyPost P fn R .ret a w :=
  bodyPost_ret (by rw [results_all h hv, pack_eq]) hd hR

end Go.Proofs.Ytonlefopjpdecaa
