/- slices.Clone at the two element types: the result is a row of the call's own that reads as what came in. -/
import Derived.Test.YtdfcbfcnanpolaaRg
namespace Go.Proofs.Ytdfcbfcnanpolaa
open Go.RowKit

theorem info_ent : (Try.prog.info? 27).map (fun i => (i.zero, i.size, i.bytes)) = some (some (.agg #[.int .i64 0, .int .i64 0, .int .i64 0, .int .i64 0, .int .i64 0, .bool false, .bool false, .bool false]), 8, 48) := by kernel_rfl
theorem info_int : (Try.prog.info? 3).map (fun i => (i.zero, i.size, i.bytes)) = some (some (.int .i64 0), 1, 8) := by kernel_rfl

/-- A row of entries of the call's own, from block B on. -/
def OwnE (w : World) (B : Nat) (v : Value) (l : List Ent) : Prop := w.ownsRow B 27 8 v l.length (entCs l)
def OwnI (w : World) (B : Nat) (v : Value) (l : List Int) : Prop := w.ownsRow B 3 1 v l.length (intCs l)
/-- What a call that answers a row of its own leaves. -/
def GivesE (w : World) (l : List Ent) (e : Ending) (w' : World) : Prop := ∃ v, e = .returned v ∧ OwnE w' w.heap.size v l ∧ Below w.heap.size w w'
def GivesI (w : World) (l : List Int) (e : Ending) (w' : World) : Prop := ∃ v, e = .returned v ∧ OwnI w' w.heap.size v l ∧ Below w.heap.size w w'

theorem own_past {w w' : World} {base : Nat} {e : TypeId} {size : Nat} {v : Value} {n : Nat} {xs : List Value} (h : w.ownsRow base e size v n xs) (hb : Below w.heap.size w w') : w'.ownsRow base e size v n xs :=
  h.kept (row := none) ⟨hb.os, hb.tape, hb.output, hb.size, fun k hk _ => hb.block k hk⟩ (by cases v.ownBlock <;> simp)
theorem own_lower {w : World} {base base' : Nat} {e : TypeId} {size : Nat} {v : Value} {n : Nat} {xs : List Value} (h : w.ownsRow base e size v n xs) (hb : base' ≤ base) : w.ownsRow base' e size v n xs := by
  refine ⟨h.1, ?_⟩
  rcases h.2 with hn | ⟨g, cap, cur, hv, hg, rest⟩
  · exact .inl hn
  · exact .inr ⟨g, cap, cur, hv, by omega, rest⟩
theorem own_shape {w : World} {base : Nat} {e : TypeId} {size : Nat} {v : Value} {n : Nat} {xs : List Value} (h : w.ownsRow base e size v n xs) : ∃ A c, v = .slice A n c ∧ n ≤ c ∧ Reads w w.heap.size size A n xs := by
  rcases h.2 with ⟨rfl, rfl⟩ | ⟨g, cap, cur, rfl, hg, hh, hc, rest⟩
  · exact ⟨none, 0, rfl, Nat.le_refl _, by have : xs = [] := List.eq_nil_of_length_eq_zero (by simpa using h.1)
                                           subst this
                                           exact Reads.none_⟩
  · exact ⟨_, cap, rfl, hc, Reads.of_own h⟩
theorem OwnE.nil {w : World} {B : Nat} : OwnE w B (.slice none 0 0) [] := World.ownsRow_nil _ _ _ _
theorem OwnI.nil {w : World} {B : Nat} : OwnI w B (.slice none 0 0) [] := World.ownsRow_nil _ _ _ _
theorem OwnE.past {w w' : World} {B : Nat} {v : Value} {l : List Ent} (h : OwnE w B v l) (hb : Below w.heap.size w w') : OwnE w' B v l := own_past h hb
theorem OwnI.past {w w' : World} {B : Nat} {v : Value} {l : List Int} (h : OwnI w B v l) (hb : Below w.heap.size w w') : OwnI w' B v l := own_past h hb
theorem OwnE.lower {w : World} {B B' : Nat} {v : Value} {l : List Ent} (h : OwnE w B v l) (hb : B' ≤ B) : OwnE w B' v l := own_lower h hb
theorem OwnI.lower {w : World} {B B' : Nat} {v : Value} {l : List Int} (h : OwnI w B v l) (hb : B' ≤ B) : OwnI w B' v l := own_lower h hb
theorem OwnE.shape {w : World} {B : Nat} {v : Value} {l : List Ent} (h : OwnE w B v l) : ∃ A c, v = .slice A l.length c ∧ l.length ≤ c ∧ RdE w A l := own_shape h
theorem OwnI.shape {w : World} {B : Nat} {v : Value} {l : List Int} (h : OwnI w B v l) : ∃ A c, v = .slice A l.length c ∧ l.length ≤ c ∧ RdI w A l := own_shape h
theorem OwnE.grows {B : Nat} {l : List Ent} : Grows (fun v w' => OwnE w' B v l) := fun _ _ _ h hb => h.past hb
theorem OwnI.grows {B : Nat} {l : List Int} : Grows (fun v w' => OwnI w' B v l) := fun _ _ _ h hb => h.past hb
/-- A new row whose cells are known whole. -/
def NewRow (B n : Nat) (cs : Array Value) (t : TypeId) (v : Value) (w : World) : Prop := ∃ g, v = .slice (some ⟨g, 0, none⟩) n n ∧ B ≤ g ∧ w.heap[g]? = some (.cells cs t (0, 0))
theorem NewRow.grows {B n : Nat} {cs : Array Value} {t : TypeId} : Grows (NewRow B n cs t) := fun _ _ _ ⟨g, h1, h2, h3⟩ hb => ⟨g, h1, h2, (hb.block g (Array.getElem?_eq_some_iff.1 h3).1).trans h3⟩
theorem NewRow.of_alloc {B n : Nat} {cs : Array Value} {t : TypeId} {w : World} (hB : B ≤ w.heap.size) : NewRow B n cs t (.slice (some ⟨w.heap.size, 0, none⟩) n n) (w.alloc (.cells cs t)) := ⟨_, rfl, hB, heap_alloc_new w _⟩
theorem NewRow.reads {B n size : Nat} {cs : List Value} {t : TypeId} {v : Value} {w : World} (h : NewRow B n cs.toArray t v w) (hn : cs.length = n * size) : ∃ g, v = .slice (some ⟨g, 0, none⟩) n n ∧ Reads w w.heap.size size (some ⟨g, 0, none⟩) n cs := by
  obtain ⟨g, h1, _, h3⟩ := h
  refine ⟨g, h1, hn, fun _ => ⟨_, rfl, rfl, (Array.getElem?_eq_some_iff.1 h3).1, fun j u hu => ?_⟩⟩
  have := cell_of_row w g (0 + j) cs.toArray t (0, 0) h3
  rw [this]
  simpa using hu
theorem below_alloc_self (w : World) (o : Obj) : Below w.heap.size w (w.alloc o) := (Below.refl _ _).alloc (Nat.le_refl _) o

set_option maxHeartbeats 400000 in
theorem clone_ent (A : Option Addr) (c : Nat) (l : List Ent) (w : World) (hr : RdE w A l) (hn : l.length ≤ 1000000) :
    Calls Try.prog 33 #[.slice A l.length c] w (GivesE w l) := by
  obtain ⟨i0, hi0, hz0, hz1, hz2⟩ := info_parts info_ent
  have hnil := fun (w : World) (A : Option Addr) (n c : Nat) => Lib.run_eql_slice_nil (P := Try.prog) w 23 27 A n c 0 0 Try.underlying23
  have hown : (w.alloc (.cells #[] 27)).ownsRow w.heap.size 27 8 (.slice (some ⟨w.heap.size, 0, none⟩) 0 0) 0 [] := World.ownsRow_made w #[] 0 (Nat.le_refl _) (by simp [maxLen]) (by simp)
  have hrd : Reads (w.alloc (.cells #[] 27)) w.heap.size 8 A l.length (entCs l) := hr.below ((Below.refl _ _).alloc (Nat.le_refl _) _)
  have HR := Kept.mk hr
  clear hr
  have HW := Kept.mk hown
  have HD := Kept.mk hrd
  clear hown hrd
  cases A with
  | none =>
    go_enter Try.func33, Try.ntmps33
    go_wp2_with fail
    go_ret
    have hl : l = [] := by
      rcases Nat.eq_zero_or_pos l.length with h0 | h0
      · exact List.eq_nil_of_length_eq_zero h0
      · obtain ⟨ad, h, _⟩ := HR.out.2 h0
        cases h
    subst hl
    exact ⟨_, rfl, World.ownsRow_nil _ _ _ _, Below.refl _ _⟩
  | some ad =>
    go_enter Try.func33, Try.ntmps33
    go_wp2_with (at_builtin; refine wpList_append_any _ rfl (.tmp 5) (.tmp 6) _ rfl w.heap.size 27 i0 _ 8 48 Try.underlying23 hi0 hz0 hz1 hz2 rfl (by omega) _ 0 [] rfl HW.out w.heap.size (some ad) l.length c (entCs l) rfl HD.out (entCs_one_cell l) ?c1 ?c2 ?c3 ?_)
    case c1 => simp only [maxLen]; omega
    case c2 => omega
    case c3 => simp
    intro v' w' h1 h2 _
    go_wp2_with fail
    go_ret
    refine ⟨v', rfl, by simpa [OwnE] using h1, ((Below.refl _ w).alloc (Nat.le_refl _) _).grown h2 (by simp) (fun k hk => ?_)⟩
    simp [Value.ownBlock] at hk
    omega
set_option maxHeartbeats 400000 in
theorem clone_int (A : Option Addr) (c : Nat) (l : List Int) (w : World) (hr : RdI w A l) (hn : l.length ≤ 1000000) :
    Calls Try.prog 34 #[.slice A l.length c] w (GivesI w l) := by
  obtain ⟨i0, hi0, hz0, hz1, hz2⟩ := info_parts info_int
  have hnil := fun (w : World) (A : Option Addr) (n c : Nat) => Lib.run_eql_slice_nil (P := Try.prog) w 22 3 A n c 0 0 Try.underlying22
  have hown : (w.alloc (.cells #[] 3)).ownsRow w.heap.size 3 1 (.slice (some ⟨w.heap.size, 0, none⟩) 0 0) 0 [] := World.ownsRow_made w #[] 0 (Nat.le_refl _) (by simp [maxLen]) (by simp)
  have hrd : Reads (w.alloc (.cells #[] 3)) w.heap.size 1 A l.length (intCs l) := hr.below ((Below.refl _ _).alloc (Nat.le_refl _) _)
  have HR := Kept.mk hr
  clear hr
  have HW := Kept.mk hown
  have HD := Kept.mk hrd
  clear hown hrd
  cases A with
  | none =>
    go_enter Try.func34, Try.ntmps34
    go_wp2_with fail
    go_ret
    have hl : l = [] := by
      rcases Nat.eq_zero_or_pos l.length with h0 | h0
      · exact List.eq_nil_of_length_eq_zero h0
      · obtain ⟨ad, h, _⟩ := HR.out.2 h0
        cases h
    subst hl
    exact ⟨_, rfl, World.ownsRow_nil _ _ _ _, Below.refl _ _⟩
  | some ad =>
    go_enter Try.func34, Try.ntmps34
    go_wp2_with (at_builtin; refine wpList_append_any _ rfl (.tmp 5) (.tmp 6) _ rfl w.heap.size 3 i0 _ 1 8 Try.underlying22 hi0 hz0 hz1 hz2 rfl (by omega) _ 0 [] rfl HW.out w.heap.size (some ad) l.length c (intCs l) rfl HD.out (intCs_one_cell l) ?c1 ?c2 ?c3 ?_)
    case c1 => simp only [maxLen]; omega
    case c2 => omega
    case c3 => simp
    intro v' w' h1 h2 _
    go_wp2_with fail
    go_ret
    refine ⟨v', rfl, by simpa [OwnI] using h1, ((Below.refl _ w).alloc (Nat.le_refl _) _).grown h2 (by simp) (fun k hk => ?_)⟩
    simp [Value.ownBlock] at hk
    omega
theorem heap_at_new {W : World} {o : Obj} {g : Nat} (h : g = W.heap.size) : (W.alloc o).heap[g]? = some o := by subst h; exact heap_alloc_new W o
/-- append of one entry, of one number: the source is a new block. -/
theorem reads_block {w : World} {g n size : Nat} {cs : List Value} {t : TypeId} {fr : Nat × Nat} (h : w.heap[g]? = some (.cells cs.toArray t fr)) (hn : cs.length = n * size) : Reads w w.heap.size size (some ⟨g, 0, none⟩) n cs := by
  refine ⟨hn, fun _ => ⟨_, rfl, rfl, (Array.getElem?_eq_some_iff.1 h).1, fun j u hu => ?_⟩⟩
  rw [cell_of_row w g (0 + j) cs.toArray t fr h]
  simpa using hu
theorem append_ent {ops : Array Oper} {rest : List Oper} {o : Oper} {a : Act} {Q : Exit → Act → World → Prop} (W : World) (hgd : o.guard = none) (s x : Operand)
    (ho : o.op = .call { callee := .builtin .append, args := #[s, x], argTypes := #[23, 23] }) (B : Nat) {v : Value} {l : List Ent} (hs : a.eval s = v) (hown : OwnE W B v l) (g : Nat) (e : Ent)
    (hx : a.eval x = .slice (some ⟨g, 0, none⟩) 1 1) (hg : W.heap[g]? = some (.cells e.cs.toArray 27 (0, 0))) (hl : l.length < 1000000) (hB : B ≤ W.heap.size)
    (h : ∀ v' w', OwnE w' B v' (l ++ [e]) → W.grownBy w' v.ownBlock → Below B W w' → wpList Try.prog ops Q rest (a.put o.dst v') w') : wpList Try.prog ops Q (o :: rest) a W := by
  obtain ⟨i0, hi0, hz0, hz1, hz2⟩ := info_parts info_ent
  refine wpList_append_any W hgd s x _ ho B 27 i0 _ 8 48 Try.underlying23 hi0 hz0 hz1 hz2 rfl (by omega) v l.length (entCs l) hs hown W.heap.size (some ⟨g, 0, none⟩) 1 1 e.cs hx (reads_block hg rfl) (by rw [← entCs_one]; exact entCs_one_cell [e])
    (by simp only [maxLen]; omega) (by omega) hB fun v' w' h1 h2 _ => h v' w' ?_ h2 ((Below.refl _ _).grown h2 hB (fun k hk => (World.ownsRow.lt hown k hk).1))
  unfold OwnE
  rw [entCs_append, entCs_one, List.length_append]
  exact h1
theorem append_int {ops : Array Oper} {rest : List Oper} {o : Oper} {a : Act} {Q : Exit → Act → World → Prop} (W : World) (hgd : o.guard = none) (s x : Operand)
    (ho : o.op = .call { callee := .builtin .append, args := #[s, x], argTypes := #[22, 22] }) (B : Nat) {v : Value} {l : List Int} (hs : a.eval s = v) (hown : OwnI W B v l) (g : Nat) (n : Int)
    (hx : a.eval x = .slice (some ⟨g, 0, none⟩) 1 1) (hg : W.heap[g]? = some (.cells #[.int .i64 n] 3 (0, 0))) (hl : l.length < 1000000) (hB : B ≤ W.heap.size)
    (h : ∀ v' w', OwnI w' B v' (l ++ [n]) → W.grownBy w' v.ownBlock → Below B W w' → wpList Try.prog ops Q rest (a.put o.dst v') w') : wpList Try.prog ops Q (o :: rest) a W := by
  obtain ⟨i0, hi0, hz0, hz1, hz2⟩ := info_parts info_int
  refine wpList_append_any W hgd s x _ ho B 3 i0 _ 1 8 Try.underlying22 hi0 hz0 hz1 hz2 rfl (by omega) v l.length (intCs l) hs hown W.heap.size (some ⟨g, 0, none⟩) 1 1 (intCs [n]) hx (reads_block hg rfl) (intCs_one_cell [n])
    (by simp only [maxLen]; omega) (by omega) hB fun v' w' h1 h2 _ => h v' w' ?_ h2 ((Below.refl _ _).grown h2 hB (fun k hk => (World.ownsRow.lt hown k hk).1))
  unfold OwnI
  rw [intCs_append, List.length_append]
  exact h1
/-- append of a whole row. -/
theorem append_ents {ops : Array Oper} {rest : List Oper} {o : Oper} {a : Act} {Q : Exit → Act → World → Prop} (W : World) (hgd : o.guard = none) (s x : Operand)
    (ho : o.op = .call { callee := .builtin .append, args := #[s, x], argTypes := #[23, 23] }) (B : Nat) {v : Value} {l : List Ent} (hs : a.eval s = v) (hown : OwnE W B v l) {A : Option Addr} {c : Nat} {m : List Ent}
    (hx : a.eval x = .slice A m.length c) (hr : RdE W A m) (hl : l.length + m.length < 1000000) (hB : B ≤ W.heap.size)
    (h : ∀ v' w', OwnE w' B v' (l ++ m) → W.grownBy w' v.ownBlock → Below B W w' → wpList Try.prog ops Q rest (a.put o.dst v') w') : wpList Try.prog ops Q (o :: rest) a W := by
  obtain ⟨i0, hi0, hz0, hz1, hz2⟩ := info_parts info_ent
  refine wpList_append_any W hgd s x _ ho B 27 i0 _ 8 48 Try.underlying23 hi0 hz0 hz1 hz2 rfl (by omega) v l.length (entCs l) hs hown W.heap.size A m.length c (entCs m) hx hr (entCs_one_cell m)
    (by simp only [maxLen]; omega) (by omega) hB fun v' w' h1 h2 _ => h v' w' ?_ h2 ((Below.refl _ _).grown h2 hB (fun k hk => (World.ownsRow.lt hown k hk).1))
  unfold OwnE
  rw [entCs_append, List.length_append]
  exact h1
theorem append_nums {ops : Array Oper} {rest : List Oper} {o : Oper} {a : Act} {Q : Exit → Act → World → Prop} (W : World) (hgd : o.guard = none) (s x : Operand)
    (ho : o.op = .call { callee := .builtin .append, args := #[s, x], argTypes := #[22, 22] }) (B : Nat) {v : Value} {l : List Int} (hs : a.eval s = v) (hown : OwnI W B v l) {A : Option Addr} {c : Nat} {m : List Int}
    (hx : a.eval x = .slice A m.length c) (hr : RdI W A m) (hl : l.length + m.length < 1000000) (hB : B ≤ W.heap.size)
    (h : ∀ v' w', OwnI w' B v' (l ++ m) → W.grownBy w' v.ownBlock → Below B W w' → wpList Try.prog ops Q rest (a.put o.dst v') w') : wpList Try.prog ops Q (o :: rest) a W := by
  obtain ⟨i0, hi0, hz0, hz1, hz2⟩ := info_parts info_int
  refine wpList_append_any W hgd s x _ ho B 3 i0 _ 1 8 Try.underlying22 hi0 hz0 hz1 hz2 rfl (by omega) v l.length (intCs l) hs hown W.heap.size A m.length c (intCs m) hx hr (intCs_one_cell m)
    (by simp only [maxLen]; omega) (by omega) hB fun v' w' h1 h2 _ => h v' w' ?_ h2 ((Below.refl _ _).grown h2 hB (fun k hk => (World.ownsRow.lt hown k hk).1))
  unfold OwnI
  rw [intCs_append, List.length_append]
  exact h1
/-- The empty literal '[]T{}' in a new block. -/
theorem OwnE.made {w : World} {B : Nat} (hB : B ≤ w.heap.size) : OwnE (w.alloc (.cells #[] 27)) B (.slice (some ⟨w.heap.size, 0, none⟩) 0 0) [] := World.ownsRow_made w #[] 0 hB (by simp [maxLen]) (by simp)
theorem OwnI.made {w : World} {B : Nat} (hB : B ≤ w.heap.size) : OwnI (w.alloc (.cells #[] 3)) B (.slice (some ⟨w.heap.size, 0, none⟩) 0 0) [] := World.ownsRow_made w #[] 0 hB (by simp [maxLen]) (by simp)
theorem clone_ent_at (A : Option Addr) (n c : Nat) (l : List Ent) (w : World) (hl : l.length = n) (hr : RdE w A l) (hn : n ≤ 1000000) :
    Calls Try.prog 33 #[.slice A n c] w (GivesE w l) := by
  subst hl
  exact clone_ent A c l w hr hn
theorem clone_int_at (A : Option Addr) (n c : Nat) (l : List Int) (w : World) (hl : l.length = n) (hr : RdI w A l) (hn : n ≤ 1000000) :
    Calls Try.prog 34 #[.slice A n c] w (GivesI w l) := by
  subst hl
  exact clone_int A c l w hr hn
end Go.Proofs.Ytdfcbfcnanpolaa
