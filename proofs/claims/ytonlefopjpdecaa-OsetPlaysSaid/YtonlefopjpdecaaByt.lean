/- Rows of numbers and of bytes in memory: what they read as, rows of the call's own, append, bytes as strings. -/
import Derived.Test.YtonlefopjpdecaaRg
import Derived.Lib.Bytealg
import Derived.Laws.IdiomStrings
import Derived.Laws.BytesArg
namespace Go.Proofs.Ytonlefopjpdecaa
open Go.RowKit

theorem own_past {w w' : World} {base : Nat} {e : TypeId} {size : Nat} {v : Value} {n : Nat} {xs : List Value} (h : w.ownsRow base e size v n xs) (hb : Below w.heap.size w w') : w'.ownsRow base e size v n xs :=
  h.kept (row := none) ⟨hb.os, hb.tape, hb.output, hb.size, fun k hk _ => hb.block k hk⟩ (by cases v.ownBlock <;> simp)
theorem own_lower {w : World} {base base' : Nat} {e : TypeId} {size : Nat} {v : Value} {n : Nat} {xs : List Value} (h : w.ownsRow base e size v n xs) (hb : base' ≤ base) : w.ownsRow base' e size v n xs := by
  refine ⟨h.1, ?_⟩
  rcases h.2 with hn | ⟨g, cap, cur, hv, hg, rest⟩
  · exact .inl hn
  · exact .inr ⟨g, cap, cur, hv, by omega, rest⟩
theorem own_shape {w : World} {base : Nat} {e : TypeId} {size : Nat} {v : Value} {n : Nat} {xs : List Value} (h : w.ownsRow base e size v n xs) : ∃ A c, v = .slice A n c ∧ n ≤ c ∧ Reads w w.heap.size size A n xs := by
  rcases h.2 with ⟨rfl, rfl⟩ | ⟨g, cap, cur, rfl, hg, hh, hc, rest⟩
  · exact ⟨none, 0, rfl, Nat.le_refl _, by have : xs = [] := List.eq_nil_of_length_eq_zero (by simpa using h.1)
                                           subst this
                                           exact Reads.none_⟩
  · exact ⟨_, cap, rfl, hc, Reads.of_own h⟩
/-- A new row whose cells are known whole. -/
def NewRow (B n : Nat) (cs : Array Value) (t : TypeId) (v : Value) (w : World) : Prop := ∃ g, v = .slice (some ⟨g, 0, none⟩) n n ∧ B ≤ g ∧ w.heap[g]? = some (.cells cs t (0, 0))
theorem NewRow.grows {B n : Nat} {cs : Array Value} {t : TypeId} : Grows (NewRow B n cs t) := fun _ _ _ ⟨g, h1, h2, h3⟩ hb => ⟨g, h1, h2, (hb.block g (Array.getElem?_eq_some_iff.1 h3).1).trans h3⟩
theorem NewRow.of_alloc {B n : Nat} {cs : Array Value} {t : TypeId} {w : World} (hB : B ≤ w.heap.size) : NewRow B n cs t (.slice (some ⟨w.heap.size, 0, none⟩) n n) (w.alloc (.cells cs t)) := ⟨_, rfl, hB, heap_alloc_new w _⟩
theorem NewRow.reads {B n size : Nat} {cs : List Value} {t : TypeId} {v : Value} {w : World} (h : NewRow B n cs.toArray t v w) (hn : cs.length = n * size) : ∃ g, v = .slice (some ⟨g, 0, none⟩) n n ∧ Reads w w.heap.size size (some ⟨g, 0, none⟩) n cs := by
  obtain ⟨g, h1, _, h3⟩ := h
  refine ⟨g, h1, hn, fun _ => ⟨_, rfl, rfl, (Array.getElem?_eq_some_iff.1 h3).1, fun j u hu => ?_⟩⟩
  have := cell_of_row w g (0 + j) cs.toArray t (0, 0) h3
  rw [this]
  simpa using hu
theorem below_alloc_self (w : World) (o : Obj) : Below w.heap.size w (w.alloc o) := (Below.refl _ _).alloc (Nat.le_refl _) o
theorem heap_at_new {W : World} {o : Obj} {g : Nat} (h : g = W.heap.size) : (W.alloc o).heap[g]? = some o := by subst h; exact heap_alloc_new W o
theorem reads_block {w : World} {g n size : Nat} {cs : List Value} {t : TypeId} {fr : Nat × Nat} (h : w.heap[g]? = some (.cells cs.toArray t fr)) (hn : cs.length = n * size) : Reads w w.heap.size size (some ⟨g, 0, none⟩) n cs := by
  refine ⟨hn, fun _ => ⟨_, rfl, rfl, (Array.getElem?_eq_some_iff.1 h).1, fun j u hu => ?_⟩⟩
  rw [cell_of_row w g (0 + j) cs.toArray t fr h]
  simpa using hu
theorem info_int : (Try.prog.info? 3).map (fun i => (i.zero, i.size, i.bytes)) = some (some (.int .i64 0), 1, 8) := by kernel_rfl
def OwnI (w : World) (B : Nat) (v : Value) (l : List Int) : Prop := w.ownsRow B 3 1 v l.length (intCs l)
def GivesI (w : World) (l : List Int) (e : Ending) (w' : World) : Prop := ∃ v, e = .returned v ∧ OwnI w' w.heap.size v l ∧ Below w.heap.size w w'
theorem OwnI.nil {w : World} {B : Nat} : OwnI w B (.slice none 0 0) [] := World.ownsRow_nil _ _ _ _
theorem OwnI.past {w w' : World} {B : Nat} {v : Value} {l : List Int} (h : OwnI w B v l) (hb : Below w.heap.size w w') : OwnI w' B v l := own_past h hb
theorem OwnI.lower {w : World} {B B' : Nat} {v : Value} {l : List Int} (h : OwnI w B v l) (hb : B' ≤ B) : OwnI w B' v l := own_lower h hb
theorem OwnI.shape {w : World} {B : Nat} {v : Value} {l : List Int} (h : OwnI w B v l) : ∃ A c, v = .slice A l.length c ∧ l.length ≤ c ∧ RdI w A l := own_shape h
theorem OwnI.grows {B : Nat} {l : List Int} : Grows (fun v w' => OwnI w' B v l) := fun _ _ _ h hb => h.past hb
theorem OwnI.made {w : World} {B : Nat} (hB : B ≤ w.heap.size) : OwnI (w.alloc (.cells #[] 3)) B (.slice (some ⟨w.heap.size, 0, none⟩) 0 0) [] := World.ownsRow_made w #[] 0 hB (by simp [maxLen]) (by simp)
theorem append_int {ops : Array Oper} {rest : List Oper} {o : Oper} {a : Act} {Q : Exit → Act → World → Prop} (W : World) (hgd : o.guard = none) (s x : Operand)
    (ho : o.op = .call { callee := .builtin .append, args := #[s, x], argTypes := #[38, 38] }) (B : Nat) {v : Value} {l : List Int} (hs : a.eval s = v) (hown : OwnI W B v l) (g : Nat) (n : Int)
    (hx : a.eval x = .slice (some ⟨g, 0, none⟩) 1 1) (hg : W.heap[g]? = some (.cells #[.int .i64 n] 3 (0, 0))) (hl : l.length < 1000000) (hB : B ≤ W.heap.size)
    (h : ∀ v' w', OwnI w' B v' (l ++ [n]) → W.grownBy w' v.ownBlock → Below B W w' → wpList Try.prog ops Q rest (a.put o.dst v') w') : wpList Try.prog ops Q (o :: rest) a W := by
  obtain ⟨i0, hi0, hz0, hz1, hz2⟩ := info_parts info_int
  refine wpList_append_any W hgd s x _ ho B 3 i0 _ 1 8 Try.underlying38 hi0 hz0 hz1 hz2 rfl (by omega) v l.length (intCs l) hs hown W.heap.size (some ⟨g, 0, none⟩) 1 1 (intCs [n]) hx (reads_block hg rfl) (intCs_one_cell [n])
    (by simp only [maxLen]; omega) (by omega) hB fun v' w' h1 h2 _ => h v' w' ?_ h2 ((Below.refl _ _).grown h2 hB (fun k hk => (World.ownsRow.lt hown k hk).1))
  unfold OwnI
  rw [intCs_append, List.length_append]
  exact h1
theorem append_nums {ops : Array Oper} {rest : List Oper} {o : Oper} {a : Act} {Q : Exit → Act → World → Prop} (W : World) (hgd : o.guard = none) (s x : Operand)
    (ho : o.op = .call { callee := .builtin .append, args := #[s, x], argTypes := #[38, 38] }) (B : Nat) {v : Value} {l : List Int} (hs : a.eval s = v) (hown : OwnI W B v l) {A : Option Addr} {c : Nat} {m : List Int}
    (hx : a.eval x = .slice A m.length c) (hr : RdI W A m) (hl : l.length + m.length < 1000000) (hB : B ≤ W.heap.size)
    (h : ∀ v' w', OwnI w' B v' (l ++ m) → W.grownBy w' v.ownBlock → Below B W w' → wpList Try.prog ops Q rest (a.put o.dst v') w') : wpList Try.prog ops Q (o :: rest) a W := by
  obtain ⟨i0, hi0, hz0, hz1, hz2⟩ := info_parts info_int
  refine wpList_append_any W hgd s x _ ho B 3 i0 _ 1 8 Try.underlying38 hi0 hz0 hz1 hz2 rfl (by omega) v l.length (intCs l) hs hown W.heap.size A m.length c (intCs m) hx hr (intCs_one_cell m)
    (by simp only [maxLen]; omega) (by omega) hB fun v' w' h1 h2 _ => h v' w' ?_ h2 ((Below.refl _ _).grown h2 hB (fun k hk => (World.ownsRow.lt hown k hk).1))
  unfold OwnI
  rw [intCs_append, List.length_append]
  exact h1

/-! ### Bytes -/
theorem info_byte : (Try.prog.info? 5).map (fun i => (i.zero, i.size, i.bytes)) = some (some (.int .u8 0), 1, 1) := by kernel_rfl
def bytCs (l : List UInt8) : List Value := l.map fun b => .int .u8 b.toNat
theorem bytCs_length (l : List UInt8) : (bytCs l).length = l.length := by simp [bytCs]
theorem bytCs_append (l m : List UInt8) : bytCs (l ++ m) = bytCs l ++ bytCs m := by simp [bytCs]
theorem bytCs_one_cell (l : List UInt8) : ∀ u ∈ bytCs l, u.oneCell' = true := by
  intro u hu
  obtain ⟨_, _, rfl⟩ := List.mem_map.1 hu
  rfl
def RdB (w : World) (A : Option Addr) (l : List UInt8) : Prop := Reads w w.heap.size 1 A l.length (bytCs l)
def OwnB (w : World) (B : Nat) (v : Value) (l : List UInt8) : Prop := w.ownsRow B 5 1 v l.length (bytCs l)
def GivesB (w : World) (l : List UInt8) (e : Ending) (w' : World) : Prop := ∃ v, e = .returned v ∧ OwnB w' w.heap.size v l ∧ Below w.heap.size w w'
theorem RdB.past {w w' : World} {A : Option Addr} {l : List UInt8} (h : RdB w A l) (hb : Below w.heap.size w w') : RdB w' A l := Reads.past h hb
theorem RdB.nil {w : World} : RdB w none [] := Reads.none_
theorem RdB.at_ {w : World} {A : Option Addr} {l : List UInt8} (h : RdB w A l) {i : Nat} (hi : i < l.length) : ∃ b o, A = some ⟨b, o, none⟩ ∧ b < w.heap.size ∧ w.cell? ⟨b, o + i, none⟩ = some (.int .u8 l[i].toNat) := by
  obtain ⟨b, o, e, hb, hc⟩ := Reads.cells h hi
  refine ⟨b, o, e, hb, ?_⟩
  have := hc 0 (.int .u8 l[i].toNat) (by omega) (by simp [bytCs, hi])
  simpa using this
theorem RdB.to {w : World} {A : Option Addr} {l : List UInt8} (h : RdB w A l) {k : Nat} (hk : k ≤ l.length) : RdB w A (l.take k) := by
  have := Reads.take h hk
  unfold RdB
  rw [List.length_take, Nat.min_eq_left hk]
  simpa [bytCs, List.map_take] using this
theorem RdB.from_ {w : World} {A : Option Addr} {l : List UInt8} (h : RdB w A l) {k c : Nat} (hk : k ≤ l.length) (hc : l.length ≤ c) : RdB w (if c = k then A else A.map (·.add (k * 1))) (l.drop k) := by
  have := Reads.cut h hk hc
  unfold RdB
  rw [List.length_drop]
  simpa [bytCs, List.map_drop] using this
theorem OwnB.nil {w : World} {B : Nat} : OwnB w B (.slice none 0 0) [] := World.ownsRow_nil _ _ _ _
theorem OwnB.past {w w' : World} {B : Nat} {v : Value} {l : List UInt8} (h : OwnB w B v l) (hb : Below w.heap.size w w') : OwnB w' B v l := own_past h hb
theorem OwnB.lower {w : World} {B B' : Nat} {v : Value} {l : List UInt8} (h : OwnB w B v l) (hb : B' ≤ B) : OwnB w B' v l := own_lower h hb
theorem OwnB.shape {w : World} {B : Nat} {v : Value} {l : List UInt8} (h : OwnB w B v l) : ∃ A c, v = .slice A l.length c ∧ l.length ≤ c ∧ RdB w A l := own_shape h
theorem OwnB.grows {B : Nat} {l : List UInt8} : Grows (fun v w' => OwnB w' B v l) := fun _ _ _ h hb => h.past hb
theorem append_byte {ops : Array Oper} {rest : List Oper} {o : Oper} {a : Act} {Q : Exit → Act → World → Prop} (W : World) (hgd : o.guard = none) (s x : Operand)
    (ho : o.op = .call { callee := .builtin .append, args := #[s, x], argTypes := #[25, 25] }) (B : Nat) {v : Value} {l : List UInt8} (hs : a.eval s = v) (hown : OwnB W B v l) (g : Nat) (b : UInt8) (n : Int)
    (hx : a.eval x = .slice (some ⟨g, 0, none⟩) 1 1) (hg : W.heap[g]? = some (.cells #[.int .u8 n] 5 (0, 0))) (hn : n = b.toNat) (hl : l.length < 100000000) (hB : B ≤ W.heap.size)
    (h : ∀ v' w', OwnB w' B v' (l ++ [b]) → W.grownBy w' v.ownBlock → Below B W w' → wpList Try.prog ops Q rest (a.put o.dst v') w') : wpList Try.prog ops Q (o :: rest) a W := by
  obtain ⟨i0, hi0, hz0, hz1, hz2⟩ := info_parts info_byte
  subst hn
  refine wpList_append_any W hgd s x _ ho B 5 i0 _ 1 1 Try.underlying25 hi0 hz0 hz1 hz2 rfl (by omega) v l.length (bytCs l) hs hown W.heap.size (some ⟨g, 0, none⟩) 1 1 (bytCs [b]) hx (reads_block hg rfl) (bytCs_one_cell [b])
    (by simp only [maxLen]; omega) (by omega) hB fun v' w' h1 h2 _ => h v' w' ?_ h2 ((Below.refl _ _).grown h2 hB (fun k hk => (World.ownsRow.lt hown k hk).1))
  unfold OwnB
  rw [bytCs_append, List.length_append]
  exact h1
/-- 'string(b)'. -/
theorem run_string {w : World} {A : Option Addr} {n c : Nat} {l : List UInt8} (h : RdB w A l) (hl : l.length = n) : (convert 25 9 (.slice A n c)).run Try.prog w = .ok (.string ⟨l.toArray⟩) w := by
  subst hl
  cases A with
  | none =>
    have : l = [] := by
      rcases Nat.eq_zero_or_pos l.length with h0 | h0
      · exact List.eq_nil_of_length_eq_zero h0
      · obtain ⟨_, e, _⟩ := h.2 h0
        cases e
    subst this
    exact run_convert_bytes_nil w 25 5 Try.underlying25 Try.underlying5 _ _ 9 Try.underlying9
  | some a =>
    refine run_convert_bytes_back w 25 9 5 a c l Try.underlying25 Try.underlying5 Try.underlying9 fun j hj => ?_
    obtain ⟨b, o, e, _, hc⟩ := h.at_ hj
    cases e
    rw [Addr.add_lit]
    exact hc
theorem str_eq (a b : List UInt8) : ((⟨a.toArray⟩ : ByteArray).toList == (⟨b.toArray⟩ : ByteArray).toList) = decide (a = b) := by
  rw [ByteArray.toList_eq, ByteArray.toList_eq]
  by_cases h : a = b <;> simp [h]
theorem run_load_bytes {w : World} : ∀ (l : List UInt8) (a : Addr) (acc : ByteArray), (∀ j x, l[j]? = some x → w.cell? (a.add j) = some (.int .u8 x.toNat)) →
    (Extern.Bytes.loadBytes a l.length acc).run Try.prog w = .ok ⟨acc.data ++ l.toArray⟩ w
  | [], a, acc, _ => by simp [Extern.Bytes.loadBytes]
  | x :: l, a, acc, h => by
    have h0 : w.cell? a = some (.int .u8 x.toNat) := by
      have := h 0 x rfl
      simpa [Addr.add] using this
    have ih := run_load_bytes l (a.add 1) (acc.push x) (fun j y hy => by
      have := h (j + 1) y (by simpa using hy)
      rw [add_of_add, Nat.add_comm]
      exact this)
    simp only [List.length_cons, Extern.Bytes.loadBytes, Sem.run_bind, run_load, h0, Result.andThen]
    have e : (x.toNat : Int).toNat.toUInt8 = x := by simp
    rw [e, ih]
    congr 1
    apply ByteArray.ext
    simp [ByteArray.push]
/-- internal/bytealg.Compare at two rows of bytes. -/
theorem run_compare {w : World} {A A' : Option Addr} {c c' : Nat} {a b : List UInt8} (ha : RdB w A a) (hb : RdB w A' b) :
    (Extern.BytealgCompare.compare #[.slice A a.length c, .slice A' b.length c']).run Try.prog w = .ok (.int .i64 (Lib.compareBytes a b)) w := by
  have one : ∀ (A : Option Addr) (c : Nat) (l : List UInt8), RdB w A l → (Extern.Bytes.bytesOf (.slice A l.length c)).run Try.prog w = .ok ⟨l.toArray⟩ w := by
    intro A c l h
    cases A with
    | none =>
      have : l = [] := by
        rcases Nat.eq_zero_or_pos l.length with h0 | h0
        · exact List.eq_nil_of_length_eq_zero h0
        · obtain ⟨_, e, _⟩ := h.2 h0
          cases e
      subst this
      rfl
    | some ad =>
      have := run_load_bytes (w := w) l ad .empty (fun j x hj => by
        obtain ⟨hj', rfl⟩ := List.getElem?_eq_some_iff.1 hj
        obtain ⟨b, o, e, _, hc⟩ := h.at_ hj'
        cases e
        rw [Addr.add_lit]
        exact hc)
      simpa [Extern.Bytes.bytesOf] using this
  change Sem.run Try.prog (do pure (goInt (Extern.BytealgCompare.cmp (← Extern.Bytes.bytesOf (.slice A a.length c)) (← Extern.Bytes.bytesOf (.slice A' b.length c'))))) w = _
  simp only [Sem.run_bind, one A c a ha, one A' c' b hb, Result.andThen_ok, Sem.run_pure, Lib.cmp_eq]
  rfl
end Go.Proofs.Ytonlefopjpdecaa
