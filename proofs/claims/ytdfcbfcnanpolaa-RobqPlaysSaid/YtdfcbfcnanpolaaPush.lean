/- robq.Push, Pop, Cut, Put: what each answers, as rows of entries. -/
import Derived.Test.YtdfcbfcnanpolaaClone
namespace Go.Proofs.Ytdfcbfcnanpolaa
open Go.RowKit

@[go_sem] def Ent.v (e : Ent) : Value := .agg #[.int .i64 e.pc, .int .i64 e.val, .int .i64 e.addr, .int .i64 e.frm, .int .i64 e.next, .bool e.done, .bool e.known, .bool e.fault]

set_option maxHeartbeats 400000 in
theorem push_no (A : Option Addr) (c : Nat) (l : List Ent) (e : Ent) (most : Int) (w : World) (hm : most ≤ l.length) :
    Calls Try.prog 13 #[.slice A l.length c, e.v, .int .i64 most] w fun e w' => e = .returned (.tuple #[.slice none 0 0, .bool false]) ∧ Below w.heap.size w w' := by
  go_enter Try.func13, Try.ntmps13
  go_wp2_with fail
  go_ret2
  exact ⟨rfl, (Below.refl _ _).alloc (Nat.le_refl _) _⟩

def GivesE2 (w : World) (l : List Ent) (e : Ending) (w' : World) : Prop := ∃ v, e = .returned (.tuple #[v, .bool true]) ∧ OwnE w' w.heap.size v l ∧ Below w.heap.size w w'

set_option maxHeartbeats 400000 in
theorem push_yes (A : Option Addr) (c : Nat) (l : List Ent) (e : Ent) (most : Int) (w : World) (hm : (l.length : Int) < most) (hr : RdE w A l) (hn : l.length < 1000000) :
    Calls Try.prog 13 #[.slice A l.length c, e.v, .int .i64 most] w (GivesE2 w (l ++ [e])) := by
  have HR := Kept.mk hr
  clear hr
  go_enter Try.func13, Try.ntmps13
  go_wp2_with fail
  have hbox : ∀ w1, Below (w.heap.size + 1) (w.alloc (.cells e.cs.toArray 27)) w1 → w1.heap[w.heap.size]? = some (.cells e.cs.toArray 27 (0, 0)) := fun w1 h => (h.block _ (by omega)).trans (heap_alloc_new w _)
  have hrd : ∀ w1, Below (w.heap.size + 1) (w.alloc (.cells e.cs.toArray 27)) w1 → RdE w1 A l := fun w1 h => RdE.past (HR.out.past (below_alloc_self w _)) (h.mono (by simp))
  refine region_tell (w.heap.size + 1) (G := fun _ => True) (ts := [
      .is (.slice A l.length c),
      .makes (fun v w' => OwnE w' (w.heap.size + 1) v l),
      .is e.v,
      .makes (NewRow (w.heap.size + 1) 1 e.cs.toArray 27),
      .turns (fun v w' => OwnE w' (w.heap.size + 1) v (l ++ [e])) (fun _ _ => True),
      .gets (fun v w' => OwnE w' (w.heap.size + 1) v (l ++ [e])),
      .is (.bool true)]) (fin := [5]) (cs := []) (by kernel_rfl) rfl (by kernel_rfl) (by kernel_rfl) ⟨trivial, OwnE.grows, trivial, NewRow.grows, OwnE.grows, OwnE.grows, trivial, trivial⟩ (fun _ _ _ _ => trivial) (by simp) (by simp) trivial
    ⟨?_, ?_, ?_, ?_, ?_, ?_, ?_, trivial⟩ ?_
  · intro vals w1 hB _ hd
    refine one_value (v := .slice A l.length c) rfl ?_ ?_
    · kernel_rfl
    · exact post_is rfl
  · intro vals w1 hB _ hd
    clear hd
    refine one_calls (f := 33) (args := #[.slice A l.length c]) (w1 := w1) rfl ?_ ?_
    · kernel_rfl
    refine (clone_ent A c l w1 (hrd w1 hB) (by omega)).mono ?_
    rintro e1 w2 ⟨v, rfl, h1, h2⟩
    exact ⟨v, rfl, post_makes rfl (OwnE.lower h1 (by have := hB.size; simpa using this)) h2⟩
  · intro vals w1 hB _ hd
    clear hd
    refine one_value (v := e.v) rfl ?_ ?_
    · exact exec_load_row rfl (b := w.heap.size) (off := 0) (by kernel_rfl) e.cs (cells_of_block (hbox w1 hB)) Try.underlying27 rfl (by kernel_rfl)
    · exact post_is rfl
  · intro vals w1 hB _ hd
    refine one_makes (v := .slice (some ⟨w1.heap.size, 0, none⟩) 1 1) (w' := w1.alloc (.cells e.cs.toArray 27)) rfl ?_ ?_
    · kernel_rfl
    · exact post_makes rfl (NewRow.of_alloc (by have := hB.size; simpa using this)) (below_alloc_self _ _)
  · intro vals w1 hB _ hd
    have d1 : OwnE w1 (w.heap.size + 1) (vals 1) l := hd 1 (by kernel_rfl)
    have d3 : NewRow (w.heap.size + 1) 1 e.cs.toArray 27 (vals 3) w1 := hd 3 (by kernel_rfl)
    clear hd
    obtain ⟨g, e3, h3⟩ := d3.reads (cs := e.cs) (n := 1) (size := 8) rfl
    refine one_append rfl (.tmp 13) (.tmp 15) _ rfl (w.heap.size + 1) _ _ 8 48 Try.underlying23 info_ent rfl (by omega) (v := vals 1) ?_ d1 (A := some ⟨g, 0, Option.none⟩) (m := 1) (c := 1) ?_ h3 ?_ (by simp only [maxLen]; omega) (by omega) (by have := hB.size; simpa using this) ?_
    · kernel_rfl
    · rw [← e3]; kernel_rfl
    · rw [← entCs_one]; exact entCs_one_cell [e]
    intro v' w' h1 h2 _
    refine post_turns rfl ?_ ?_ trivial h2.size trivial
    · show w'.ownsRow _ _ _ _ _ _
      rw [entCs_append, entCs_one, List.length_append]
      exact h1
    · exact hB.grown h2 (by have := hB.size; simpa using this) (fun k hk => (d1.lt k hk).1)
  · intro vals w1 hB _ hd
    refine one_value (v := vals 4) rfl ?_ ?_
    · kernel_rfl
    · exact post_gets rfl (hd 4 (by kernel_rfl))
  · intro vals w1 hB _ hd
    refine one_value (v := .bool true) rfl ?_ ?_
    · kernel_rfl
    · exact post_is rfl
  · intro vals w1 hB _ hr
    have h5 : OwnE w1 (w.heap.size + 1) (vals 5) (l ++ [e]) := hr 5 (by simp) (by simp)
    clear hr
    simp only [fillT, Tell.is, Tell.makes, Tell.gets, Tell.turns, Act.put, List.setIfInBounds_toArray, List.set_cons_zero, List.set_cons_succ]
    go_wp2
    go_ret2
    exact ⟨_, rfl, h5.lower (by omega), (below_alloc_self w _).trans (hB.mono (by omega))⟩
theorem push_yes_at (A : Option Addr) (n c : Nat) (l : List Ent) (e : Ent) (most : Int) (w : World) (hl : l.length = n) (hm : (n : Int) < most) (hr : RdE w A l) (hn : n < 1000000) :
    Calls Try.prog 13 #[.slice A n c, e.v, .int .i64 most] w (GivesE2 w (l ++ [e])) := by
  subst hl
  exact push_yes A c l e most w hm hr hn
theorem push_no_at (A : Option Addr) (n c : Nat) (e : Ent) (most : Int) (w : World) (hm : most ≤ n) :
    Calls Try.prog 13 #[.slice A n c, e.v, .int .i64 most] w fun e w' => e = .returned (.tuple #[.slice none 0 0, .bool false]) ∧ Below w.heap.size w w' := by
  have := push_no A c (List.replicate n e) e most w (by simpa using hm)
  simpa using this
/-- Whatever comes, the second answer tells whether there was room. -/
theorem push_ok (A : Option Addr) (n c : Nat) (l : List Ent) (e : Ent) (most : Int) (w : World) (hl : l.length = n) (hr : RdE w A l) (hn : n < 1000000) :
    Calls Try.prog 13 #[.slice A n c, e.v, .int .i64 most] w fun en w' => ∃ v, en = .returned (.tuple #[v, .bool (decide ((n : Int) < most))]) ∧ Below w.heap.size w w' := by
  by_cases h : (n : Int) < most
  · refine (push_yes_at A n c l e most w hl h hr hn).mono ?_
    rintro en w1 ⟨v, rfl, _, hb⟩
    exact ⟨v, by simp [h], hb⟩
  · refine (push_no_at A n c e most w (by omega)).mono ?_
    rintro en w1 ⟨rfl, hb⟩
    exact ⟨.slice none 0 0, by simp [h], hb⟩
end Go.Proofs.Ytdfcbfcnanpolaa
